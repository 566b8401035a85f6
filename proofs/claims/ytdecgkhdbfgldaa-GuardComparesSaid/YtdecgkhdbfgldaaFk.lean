/- The walk of GuardCompares: it is true of whatever is asked. -/
import Derived.Test.YtdecgkhdbfgldaaFj
set_option linter.unusedVariables false
set_option linter.unusedSimpArgs false
set_option maxRecDepth 8000
namespace Go.Proofs.Ytdecgkhdbfgldaa
open Go

theorem guardE_one {kind : Int} {a b : Tm} (h : ¬ (1 ≤ kind ∧ kind ≤ 4) ∨ mayT a = false ∨ mayT b = false ∨ groundB a = false ∨ groundB b = false) : guardE kind a b = 1 ∧ guardC kind a b = false := by
  have e : guardE kind a b = 1 := by
    rw [guardE, if_pos]
    rcases h with h | h
    · by_cases h1 : kind < 1
      · exact .inl h1
      · exact .inr (.inl (by omega))
    · exact .inr (.inr h)
  exact ⟨e, by rw [guardC, e]; rfl⟩

theorem GuardCompares_ok (p : Ask12) (hp : p.wf) : PF 3 [.agg (lift false (a12D p))] (bv true) := by
  have hlT : p.K.T.length ≤ 140737488351232 := hp.1.2.2.1
  have hwT := hp.1.2.2.2
  have hlen := tmDs_length p.K.T
  refine AC_intro Try.func3 rfl Try.ntmps3 (Nat.le_of_ble_eq_true rfl) fun c hL => ?_
  refine awp_seq ?_
  refine awp_region ?_
  refine awps_stp1 rfl rfl (by decide) (stp_box 1 rfl rfl rfl) rfl ?_
  refine awps_stp0 rfl rfl (by decide) (stp_move (.inr rfl) rfl) ?_
  refine awps_nil ?_
  refine thenQ_nil ?_
  refine awp_seq ?_
  refine awp_seq ?_
  refine awp_region ?_
  first | refine awps_stp0 rfl rfl (by decide) (stp_load_all rfl tf_almagestlaw12_Ask rfl rfl rfl rfl) ?_ | refine awps_stp0 rfl rfl (by decide) (stp_load rfl tf_almagestlaw12_Ask rfl rfl rfl rfl rfl) ?_ | refine awps_stp0 rfl rfl (by decide) (stp_load_elpa rfl tf_almagestlaw12_Ask rfl rfl) ?_ | refine awps_stp0 rfl rfl (by decide) (stp_load_elpn rfl tf_almagestlaw12_Ask rfl rfl rfl) ?_
  refine awps_call (avs := [_]) true rfl rfl rfl (by decide) en_almagestlaw12_Heavy rfl rfl (Heavy12_ok _ (by assumption)) rfl rfl ?_
  refine awps_nil ?_
  refine thenQ_nil ?_
  refine awp_cond rfl (fun c0 => ?_) (fun c0 => ?_)
  · try simp only [↓str_beq_t, ↓str_beq_f, decide_eq_true_eq, decide_eq_false_iff_not, Bool.not_eq_true', Bool.not_eq_false', Int.not_lt, Int.not_le, beq_iff_eq, beq_eq_false_iff_ne, bne_iff_ne, bne_eq_false_iff_eq, ne_eq] at c0
    refine awp_seq ?_
    refine awp_region ?_
    refine awps_stp0 rfl rfl (by decide) (stp_move (.inr rfl) rfl) ?_
    refine awps_nil ?_
    refine thenQ_nil ?_
    refine awp_ret ?_
    refine thenQ_ret (?_)
    -- leaf 0T
    refine ret0 (noL hL) (.inl rfl) (resAs_tmp rfl (resAs_nil)) ?_ ?_
    · rfl
    exact ⟨rfl, rfl⟩
  try simp only [↓str_beq_t, ↓str_beq_f, decide_eq_true_eq, decide_eq_false_iff_not, Bool.not_eq_true', Bool.not_eq_false', Int.not_lt, Int.not_le, beq_iff_eq, beq_eq_false_iff_ne, bne_iff_ne, bne_eq_false_iff_eq, ne_eq] at c0
  refine awp_skip ?_
  refine thenQ_nil ?_
  refine awp_seq ?_
  refine awp_seq ?_
  refine awp_region ?_
  refine awps_stp0 rfl rfl (by decide) (stp_move (.inr rfl) rfl) ?_
  refine awps_nil ?_
  refine thenQ_nil ?_
  refine awp_block ?_
  refine awp_while (5) (fun _ => True) (fun k => ⟨[(1, .ptr 1 0), (3, iv (k : Int))], [(1, .box (lift false (a12D p)))]⟩) (trivial) ?_ (fun k hk hp => ?_)
  · exact sub_re (SubT.cons (lk_eq rfl (by first | rfl | simp)) (SubT.cons (lk_eq rfl (by first | rfl | simp)) (SubT.nil))) (SubO.cons (ok_eq rfl (by rfl)) (SubO.nil)) rfl rfl (noL' (noL hL) _)
  refine awp_seq ?_
  refine awp_seq ?_
  refine awp_region ?_
  refine awps_stp0 rfl rfl (by decide) (stp_move (.inl rfl) rfl) ?_
  first | refine awps_stp0 rfl rfl (by decide) (stp_fieldAddr rfl fo_almagestlaw12_Ask_0 rfl) ?_ | refine awps_stp0 rfl rfl (by decide) (stp_fieldAddr_elp rfl fo_almagestlaw12_Ask_0 rfl) ?_
  first | refine awps_stp0 rfl rfl (by decide) (stp_fieldAddr rfl fo_almagestlaw11_Ask_2 rfl) ?_ | refine awps_stp0 rfl rfl (by decide) (stp_fieldAddr_elp rfl fo_almagestlaw11_Ask_2 rfl) ?_
  first | refine awps_stp0 rfl rfl (by decide) (stp_load rfl tf_S_api_Term rfl rfl rfl rfl rfl) ?_ | refine awps_stp0 rfl rfl (by decide) (stp_load_elp1 rfl tf_S_api_Term rfl) ?_ | refine awps_stp0 rfl rfl (by decide) (stp_load_elpn rfl tf_S_api_Term rfl rfl rfl) ?_
  first | refine awps_stp0 rfl rfl (by decide) (stp_len_dat rfl sl_S_api_Term rfl) ?_ | refine awps_stp0 rfl rfl (by decide) (stp_len_rowd rfl sl_S_api_Term rfl rfl) ?_ | refine awps_stp0 rfl rfl (by decide) (stp_len_nil rfl sl_S_api_Term rfl) ?_
  refine awps_stp0 rfl rfl (by decide) (stp_binI rfl rfl rfl rfl) ?_
  refine awps_stp0 rfl rfl (by decide) (stp_move (.inl rfl) rfl) ?_
  refine awps_split 22 rfl (fun g22 => ?_) (fun g22 => ?_)
  · try simp only [↓str_beq_t, ↓str_beq_f, decide_eq_true_eq, decide_eq_false_iff_not, Bool.not_eq_true', Bool.not_eq_false', Int.not_lt, Int.not_le, beq_iff_eq, beq_eq_false_iff_ne, bne_iff_ne, bne_eq_false_iff_eq, ne_eq] at g22
    refine awps_g0 rfl rfl rfl (by decide) rfl (by decide) (stp_move (.inl rfl) rfl) ?_
    refine awps_g0 rfl rfl rfl (by decide) rfl (by decide) (stp_binI rfl rfl rfl rfl) ?_
    refine awps_stp0 rfl rfl (by decide) (stp_pick rfl rfl rfl) ?_
    refine awps_nil ?_
    refine thenQ_nil ?_
    refine awp_cond rfl (fun c1 => ?_) (fun c1 => ?_)
    · try simp only [↓str_beq_t, ↓str_beq_f, decide_eq_true_eq, decide_eq_false_iff_not, Bool.not_eq_true', Bool.not_eq_false', Int.not_lt, Int.not_le, beq_iff_eq, beq_eq_false_iff_ne, bne_iff_ne, bne_eq_false_iff_eq, ne_eq] at c1
      obtain ⟨u, hu⟩ := get_of_lt (l := p.K.T) (k := k) (by omega)
      have huw := Tm.wfs_get hwT hu
      refine awp_skip ?_
      refine thenQ_nil ?_
      refine awp_seq ?_
      refine awp_block ?_
      refine awp_seq ?_
      refine awp_region ?_
      refine awps_stp0 rfl rfl (by decide) (stp_move (.inr rfl) rfl) ?_
      refine awps_nil ?_
      refine thenQ_nil ?_
      refine awp_block ?_
      refine awp_while (5) (fun _ => True) (fun j => ⟨[(1, .ptr 1 0), (3, iv (k : Int)), (4, iv (j : Int))], [(1, .box (lift false (a12D p)))]⟩) (trivial) ?_ (fun j hj hpj => ?_)
      · exact sub_re (SubT.cons (lk_eq rfl (by first | rfl | simp)) (SubT.cons (lk_eq rfl (by first | rfl | simp)) (SubT.cons (lk_eq rfl (by first | rfl | simp)) (SubT.nil)))) (SubO.cons (ok_eq rfl (by rfl)) (SubO.nil)) rfl rfl (noL' (noL hL) _)
      refine awp_seq ?_
      refine awp_seq ?_
      refine awp_region ?_
      refine awps_stp0 rfl rfl (by decide) (stp_move (.inl rfl) rfl) ?_
      first | refine awps_stp0 rfl rfl (by decide) (stp_fieldAddr rfl fo_almagestlaw12_Ask_0 rfl) ?_ | refine awps_stp0 rfl rfl (by decide) (stp_fieldAddr_elp rfl fo_almagestlaw12_Ask_0 rfl) ?_
      first | refine awps_stp0 rfl rfl (by decide) (stp_fieldAddr rfl fo_almagestlaw11_Ask_2 rfl) ?_ | refine awps_stp0 rfl rfl (by decide) (stp_fieldAddr_elp rfl fo_almagestlaw11_Ask_2 rfl) ?_
      first | refine awps_stp0 rfl rfl (by decide) (stp_load rfl tf_S_api_Term rfl rfl rfl rfl rfl) ?_ | refine awps_stp0 rfl rfl (by decide) (stp_load_elp1 rfl tf_S_api_Term rfl) ?_ | refine awps_stp0 rfl rfl (by decide) (stp_load_elpn rfl tf_S_api_Term rfl rfl rfl) ?_
      first | refine awps_stp0 rfl rfl (by decide) (stp_len_dat rfl sl_S_api_Term rfl) ?_ | refine awps_stp0 rfl rfl (by decide) (stp_len_rowd rfl sl_S_api_Term rfl rfl) ?_ | refine awps_stp0 rfl rfl (by decide) (stp_len_nil rfl sl_S_api_Term rfl) ?_
      refine awps_stp0 rfl rfl (by decide) (stp_binI rfl rfl rfl rfl) ?_
      refine awps_stp0 rfl rfl (by decide) (stp_move (.inl rfl) rfl) ?_
      refine awps_split 34 rfl (fun g34 => ?_) (fun g34 => ?_)
      · try simp only [↓str_beq_t, ↓str_beq_f, decide_eq_true_eq, decide_eq_false_iff_not, Bool.not_eq_true', Bool.not_eq_false', Int.not_lt, Int.not_le, beq_iff_eq, beq_eq_false_iff_ne, bne_iff_ne, bne_eq_false_iff_eq, ne_eq] at g34
        refine awps_g0 rfl rfl rfl (by decide) rfl (by decide) (stp_move (.inl rfl) rfl) ?_
        refine awps_g0 rfl rfl rfl (by decide) rfl (by decide) (stp_binI rfl rfl rfl rfl) ?_
        refine awps_stp0 rfl rfl (by decide) (stp_pick rfl rfl rfl) ?_
        refine awps_nil ?_
        refine thenQ_nil ?_
        refine awp_cond rfl (fun c2 => ?_) (fun c2 => ?_)
        · try simp only [↓str_beq_t, ↓str_beq_f, decide_eq_true_eq, decide_eq_false_iff_not, Bool.not_eq_true', Bool.not_eq_false', Int.not_lt, Int.not_le, beq_iff_eq, beq_eq_false_iff_ne, bne_iff_ne, bne_eq_false_iff_eq, ne_eq] at c2
          obtain ⟨v, hv⟩ := get_of_lt (l := p.K.T) (k := j) (by omega)
          have hvw := Tm.wfs_get hwT hv
          refine awp_skip ?_
          refine thenQ_nil ?_
          refine awp_seq ?_
          refine awp_block ?_
          refine awp_seq ?_
          refine awp_region ?_
          refine awps_stp0 rfl rfl (by decide) (stp_move (.inr rfl) rfl) ?_
          refine awps_nil ?_
          refine thenQ_nil ?_
          refine awp_block ?_
          refine awp_while (9) (fun _ => True) (fun i => ⟨[(1, .ptr 1 0), (3, iv (k : Int)), (4, iv (j : Int)), (5, iv ((i : Int) - 1))], [(1, .box (lift false (a12D p)))]⟩) (trivial) ?_ (fun i hi hpi => ?_)
          · exact sub_re (SubT.cons (lk_eq rfl (by first | rfl | simp)) (SubT.cons (lk_eq rfl (by first | rfl | simp)) (SubT.cons (lk_eq rfl (by first | rfl | simp)) (SubT.cons (lk_eq rfl (by exact int_imm (by omega))) (SubT.nil))))) (SubO.cons (ok_eq rfl (by rfl)) (SubO.nil)) rfl rfl (noL' (noL hL) _)
          refine awp_seq ?_
          refine awp_seq ?_
          refine awp_region ?_
          refine awps_stp0 rfl rfl (by decide) (stp_move (.inl rfl) rfl) ?_
          refine awps_stp0 rfl rfl (by decide) (stp_binI rfl rfl rfl rfl) ?_
          refine awps_nil ?_
          refine thenQ_nil ?_
          refine awp_cond rfl (fun c3 => ?_) (fun c3 => ?_)
          · try simp only [↓str_beq_t, ↓str_beq_f, decide_eq_true_eq, decide_eq_false_iff_not, Bool.not_eq_true', Bool.not_eq_false', Int.not_lt, Int.not_le, beq_iff_eq, beq_eq_false_iff_ne, bne_iff_ne, bne_eq_false_iff_eq, ne_eq] at c3
            refine awp_skip ?_
            refine thenQ_nil ?_
            refine awp_seq ?_
            refine awp_block ?_
            refine awp_seq ?_
            refine awp_drawG 15 mixed rfl rfl rfl rfl ?_
            first | refine MGo_c0 rfl (by decide) (.run rfl (stp_fieldAddr rfl fo_almagestlaw12_Ask_0 rfl)) ?_ | refine MGo_c0 rfl (by decide) (.run rfl (stp_fieldAddr_elp rfl fo_almagestlaw12_Ask_0 rfl)) ?_
            first | refine MGo_c0 rfl (by decide) (.run rfl (stp_fieldAddr rfl fo_almagestlaw11_Ask_2 rfl)) ?_ | refine MGo_c0 rfl (by decide) (.run rfl (stp_fieldAddr_elp rfl fo_almagestlaw11_Ask_2 rfl)) ?_
            first | refine MGo_c0 rfl (by decide) (.run rfl (stp_load rfl tf_S_api_Term rfl rfl rfl rfl rfl)) ?_ | refine MGo_c0 rfl (by decide) (.run rfl (stp_load_elp1 rfl tf_S_api_Term rfl)) ?_ | refine MGo_c0 rfl (by decide) (.run rfl (stp_load_elpn rfl tf_S_api_Term rfl rfl rfl)) ?_
            refine MGo_c0 rfl (by decide) (.run rfl (stp_move (.inl rfl) rfl)) ?_
            first | refine MGo_c0 rfl (by decide) (.run rfl (stp_indexAddr rfl sl_S_api_Term rfl rfl (by omega) (tmDs_get hu))) ?_ | refine MGo_c0 rfl (by decide) (.run rfl (stp_indexAddr_rowd rfl sl_S_api_Term rfl rfl rfl (by omega) (tmDs_get hu))) ?_ | refine MGo_c0 rfl (by decide) (.run rfl (stp_indexAddr_row rfl sl_S_api_Term rfl rfl rfl (by omega) (tmDs_get hu) (by decide))) ?_
            first | refine MGo_c0 rfl (by decide) (.run rfl (stp_load_all rfl tf_api_Term rfl rfl rfl rfl)) ?_ | refine MGo_c0 rfl (by decide) (.run rfl (stp_load rfl tf_api_Term rfl rfl rfl rfl rfl)) ?_ | refine MGo_c0 rfl (by decide) (.run rfl (stp_load_elpa rfl tf_api_Term rfl rfl)) ?_ | refine MGo_c0 rfl (by decide) (.run rfl (stp_load_elpn rfl tf_api_Term rfl rfl rfl)) ?_
            first | refine MGo_c0 rfl (by decide) (.run rfl (stp_fieldAddr rfl fo_almagestlaw12_Ask_0 rfl)) ?_ | refine MGo_c0 rfl (by decide) (.run rfl (stp_fieldAddr_elp rfl fo_almagestlaw12_Ask_0 rfl)) ?_
            first | refine MGo_c0 rfl (by decide) (.run rfl (stp_fieldAddr rfl fo_almagestlaw11_Ask_2 rfl)) ?_ | refine MGo_c0 rfl (by decide) (.run rfl (stp_fieldAddr_elp rfl fo_almagestlaw11_Ask_2 rfl)) ?_
            first | refine MGo_c0 rfl (by decide) (.run rfl (stp_load rfl tf_S_api_Term rfl rfl rfl rfl rfl)) ?_ | refine MGo_c0 rfl (by decide) (.run rfl (stp_load_elp1 rfl tf_S_api_Term rfl)) ?_ | refine MGo_c0 rfl (by decide) (.run rfl (stp_load_elpn rfl tf_S_api_Term rfl rfl rfl)) ?_
            refine MGo_c0 rfl (by decide) (.run rfl (stp_move (.inl rfl) rfl)) ?_
            first | refine MGo_c0 rfl (by decide) (.run rfl (stp_indexAddr rfl sl_S_api_Term rfl rfl (by omega) (tmDs_get hv))) ?_ | refine MGo_c0 rfl (by decide) (.run rfl (stp_indexAddr_rowd rfl sl_S_api_Term rfl rfl rfl (by omega) (tmDs_get hv))) ?_ | refine MGo_c0 rfl (by decide) (.run rfl (stp_indexAddr_row rfl sl_S_api_Term rfl rfl rfl (by omega) (tmDs_get hv) (by decide))) ?_
            first | refine MGo_c0 rfl (by decide) (.run rfl (stp_load_all rfl tf_api_Term rfl rfl rfl rfl)) ?_ | refine MGo_c0 rfl (by decide) (.run rfl (stp_load rfl tf_api_Term rfl rfl rfl rfl rfl)) ?_ | refine MGo_c0 rfl (by decide) (.run rfl (stp_load_elpa rfl tf_api_Term rfl rfl)) ?_ | refine MGo_c0 rfl (by decide) (.run rfl (stp_load_elpn rfl tf_api_Term rfl rfl rfl)) ?_
            refine MGo_c1 rfl (by decide) (.run rfl (stp_alloc 6 rfl zv_api_Term rfl)) ?_
            refine MGo_c1 rfl (by decide) (.run rfl (stp_alloc 7 rfl zv_api_Term rfl)) ?_
            refine MGo_un rfl rfl (stpU_store rfl rfl tf_api_Term rfl rfl rfl rfl rfl rfl rfl rfl rfl) ?_
            refine MGo_nil ⟨rfl, rfl, ?_⟩
            refine awps_store rfl rfl rfl tf_api_Term rfl rfl rfl rfl rfl rfl rfl rfl rfl ?_
            refine awps_nil ?_
            refine thenQ_nil ?_
            refine awp_seq ?_
            refine awp_region ?_
            refine awps_stp0 rfl rfl (by decide) (stp_move (.inl rfl) rfl) ?_
            first | refine awps_stp0 rfl rfl (by decide) (stp_load_all rfl tf_api_Term rfl rfl rfl rfl) ?_ | refine awps_stp0 rfl rfl (by decide) (stp_load rfl tf_api_Term rfl rfl rfl rfl rfl) ?_ | refine awps_stp0 rfl rfl (by decide) (stp_load_elpa rfl tf_api_Term rfl rfl) ?_ | refine awps_stp0 rfl rfl (by decide) (stp_load_elpn rfl tf_api_Term rfl rfl rfl) ?_
            first | refine awps_stp0 rfl rfl (by decide) (stp_load_all rfl tf_api_Term rfl rfl rfl rfl) ?_ | refine awps_stp0 rfl rfl (by decide) (stp_load rfl tf_api_Term rfl rfl rfl rfl rfl) ?_ | refine awps_stp0 rfl rfl (by decide) (stp_load_elpa rfl tf_api_Term rfl rfl) ?_ | refine awps_stp0 rfl rfl (by decide) (stp_load_elpn rfl tf_api_Term rfl rfl rfl) ?_
            refine awps_call (avs := [_, _, _]) true rfl rfl rfl (by decide) en_guard_Compare rfl rfl (guardCompare_ok ((i : Int) - 1) u v huw hvw) rfl rfl ?_
            refine awps_stp0 rfl rfl (by decide) (stp_move (.inl rfl) rfl) ?_
            refine awps_stp0 rfl rfl (by decide) (stp_extract rfl rfl rfl) ?_
            refine awps_stp0 rfl rfl (by decide) (stp_extract rfl rfl rfl) ?_
            refine awps_stp0 rfl rfl (by decide) (stp_move (.inr rfl) rfl) ?_
            refine awps_stp0 rfl rfl (by decide) (stp_move (.inr rfl) rfl) ?_
            refine awps_nil ?_
            refine thenQ_nil ?_
            refine awp_seq ?_
            refine awp_region ?_
            refine awps_stp0 rfl rfl (by decide) (stp_move (.inr rfl) rfl) ?_
            refine awps_stp0 rfl rfl (by decide) (stp_move (.inr rfl) rfl) ?_
            refine awps_nil ?_
            refine thenQ_nil ?_
            refine awp_seq ?_
            refine awp_seq ?_
            refine awp_region ?_
            refine awps_stp0 rfl rfl (by decide) (stp_move (.inl rfl) rfl) ?_
            refine awps_call (avs := [_, _, _]) true rfl rfl rfl (by decide) en_almagestref0_Between rfl rfl (Between_ok _ _ _) rfl rfl ?_
            refine awps_stp0 rfl rfl (by decide) (stp_move (.inl rfl) rfl) ?_
            refine awps_split 65 rfl (fun g65 => ?_) (fun g65 => ?_)
            · try simp only [↓str_beq_t, ↓str_beq_f, decide_eq_true_eq, decide_eq_false_iff_not, Bool.not_eq_true', Bool.not_eq_false', Int.not_lt, Int.not_le, beq_iff_eq, beq_eq_false_iff_ne, bne_iff_ne, bne_eq_false_iff_eq, ne_eq] at g65
              first | refine awps_g0 rfl rfl rfl (by decide) rfl (by decide) (stp_load_all rfl tf_api_Term rfl rfl rfl rfl) ?_ | refine awps_g0 rfl rfl rfl (by decide) rfl (by decide) (stp_load rfl tf_api_Term rfl rfl rfl rfl rfl) ?_ | refine awps_g0 rfl rfl rfl (by decide) rfl (by decide) (stp_load_elpa rfl tf_api_Term rfl rfl) ?_ | refine awps_g0 rfl rfl rfl (by decide) rfl (by decide) (stp_load_elpn rfl tf_api_Term rfl rfl rfl) ?_
              refine awps_g0 rfl rfl rfl (by decide) rfl (by decide) (stp_call (avs := [_]) true rfl en_almagestref1_Term rfl rfl (rTerm_ok u huw) (fun _ => rfl) rfl) ?_
              refine awps_stp0 rfl rfl (by decide) (stp_pick rfl rfl rfl) ?_
              refine awps_stp0 rfl rfl (by decide) (stp_move (.inl rfl) rfl) ?_
              refine awps_split 69 rfl (fun g69 => ?_) (fun g69 => ?_)
              · try simp only [↓str_beq_t, ↓str_beq_f, decide_eq_true_eq, decide_eq_false_iff_not, Bool.not_eq_true', Bool.not_eq_false', Int.not_lt, Int.not_le, beq_iff_eq, beq_eq_false_iff_ne, bne_iff_ne, bne_eq_false_iff_eq, ne_eq] at g69
                first | refine awps_g0 rfl rfl rfl (by decide) rfl (by decide) (stp_load_all rfl tf_api_Term rfl rfl rfl rfl) ?_ | refine awps_g0 rfl rfl rfl (by decide) rfl (by decide) (stp_load rfl tf_api_Term rfl rfl rfl rfl rfl) ?_ | refine awps_g0 rfl rfl rfl (by decide) rfl (by decide) (stp_load_elpa rfl tf_api_Term rfl rfl) ?_ | refine awps_g0 rfl rfl rfl (by decide) rfl (by decide) (stp_load_elpn rfl tf_api_Term rfl rfl rfl) ?_
                refine awps_g0 rfl rfl rfl (by decide) rfl (by decide) (stp_call (avs := [_]) true rfl en_almagestref1_Term rfl rfl (rTerm_ok v hvw) (fun _ => rfl) rfl) ?_
                refine awps_stp0 rfl rfl (by decide) (stp_pick rfl rfl rfl) ?_
                refine awps_stp0 rfl rfl (by decide) (stp_move (.inl rfl) rfl) ?_
                refine awps_split 73 rfl (fun g73 => ?_) (fun g73 => ?_)
                · try simp only [↓str_beq_t, ↓str_beq_f, decide_eq_true_eq, decide_eq_false_iff_not, Bool.not_eq_true', Bool.not_eq_false', Int.not_lt, Int.not_le, beq_iff_eq, beq_eq_false_iff_ne, bne_iff_ne, bne_eq_false_iff_eq, ne_eq] at g73
                  first | refine awps_g0 rfl rfl rfl (by decide) rfl (by decide) (stp_load_all rfl tf_api_Term rfl rfl rfl rfl) ?_ | refine awps_g0 rfl rfl rfl (by decide) rfl (by decide) (stp_load rfl tf_api_Term rfl rfl rfl rfl rfl) ?_ | refine awps_g0 rfl rfl rfl (by decide) rfl (by decide) (stp_load_elpa rfl tf_api_Term rfl rfl) ?_ | refine awps_g0 rfl rfl rfl (by decide) rfl (by decide) (stp_load_elpn rfl tf_api_Term rfl rfl rfl) ?_
                  refine awps_g0 rfl rfl rfl (by decide) rfl (by decide) (stp_call (avs := [_]) true rfl en_almagestref1_Ground rfl rfl (rGround_ok u huw (by assumption)) (fun _ => rfl) rfl) ?_
                  refine awps_stp0 rfl rfl (by decide) (stp_pick rfl rfl rfl) ?_
                  refine awps_stp0 rfl rfl (by decide) (stp_move (.inl rfl) rfl) ?_
                  refine awps_split 77 rfl (fun g77 => ?_) (fun g77 => ?_)
                  · try simp only [↓str_beq_t, ↓str_beq_f, decide_eq_true_eq, decide_eq_false_iff_not, Bool.not_eq_true', Bool.not_eq_false', Int.not_lt, Int.not_le, beq_iff_eq, beq_eq_false_iff_ne, bne_iff_ne, bne_eq_false_iff_eq, ne_eq] at g77
                    first | refine awps_g0 rfl rfl rfl (by decide) rfl (by decide) (stp_load_all rfl tf_api_Term rfl rfl rfl rfl) ?_ | refine awps_g0 rfl rfl rfl (by decide) rfl (by decide) (stp_load rfl tf_api_Term rfl rfl rfl rfl rfl) ?_ | refine awps_g0 rfl rfl rfl (by decide) rfl (by decide) (stp_load_elpa rfl tf_api_Term rfl rfl) ?_ | refine awps_g0 rfl rfl rfl (by decide) rfl (by decide) (stp_load_elpn rfl tf_api_Term rfl rfl rfl) ?_
                    refine awps_g0 rfl rfl rfl (by decide) rfl (by decide) (stp_call (avs := [_]) true rfl en_almagestref1_Ground rfl rfl (rGround_ok v hvw (by assumption)) (fun _ => rfl) rfl) ?_
                    refine awps_stp0 rfl rfl (by decide) (stp_pick rfl rfl rfl) ?_
                    refine awps_nil ?_
                    refine thenQ_nil ?_
                    refine awp_cond rfl (fun c4 => ?_) (fun c4 => ?_)
                    · try simp only [↓str_beq_t, ↓str_beq_f, decide_eq_true_eq, decide_eq_false_iff_not, Bool.not_eq_true', Bool.not_eq_false', Int.not_lt, Int.not_le, beq_iff_eq, beq_eq_false_iff_ne, bne_iff_ne, bne_eq_false_iff_eq, ne_eq] at c4
                      refine awp_seq ?_
                      refine awp_region ?_
                      refine awps_stp0 rfl rfl (by decide) (stp_move (.inr rfl) rfl) ?_
                      refine awps_nil ?_
                      refine thenQ_nil ?_
                      refine awp_seq ?_
                      refine awp_region ?_
                      refine awps_stp0 rfl rfl (by decide) (stp_move (.inl rfl) rfl) ?_
                      first | refine awps_stp0 rfl rfl (by decide) (stp_load_all rfl tf_api_Term rfl rfl rfl rfl) ?_ | refine awps_stp0 rfl rfl (by decide) (stp_load rfl tf_api_Term rfl rfl rfl rfl rfl) ?_ | refine awps_stp0 rfl rfl (by decide) (stp_load_elpa rfl tf_api_Term rfl rfl) ?_ | refine awps_stp0 rfl rfl (by decide) (stp_load_elpn rfl tf_api_Term rfl rfl rfl) ?_
                      first | refine awps_stp0 rfl rfl (by decide) (stp_load_all rfl tf_api_Term rfl rfl rfl rfl) ?_ | refine awps_stp0 rfl rfl (by decide) (stp_load rfl tf_api_Term rfl rfl rfl rfl rfl) ?_ | refine awps_stp0 rfl rfl (by decide) (stp_load_elpa rfl tf_api_Term rfl rfl) ?_ | refine awps_stp0 rfl rfl (by decide) (stp_load_elpn rfl tf_api_Term rfl rfl rfl) ?_
                      refine awps_call (avs := [_, _, _]) true rfl rfl rfl (by decide) en_almagestref10_Compare rfl rfl (pageCompare_ok ((i : Int) - 1) u v (mayT_dle (by assumption)).1 huw hvw) rfl rfl ?_
                      refine awps_stp0 rfl rfl (by decide) (stp_move (.inl rfl) rfl) ?_
                      refine awps_stp0 rfl rfl (by decide) (stp_extract rfl rfl rfl) ?_
                      refine awps_stp0 rfl rfl (by decide) (stp_extract rfl rfl rfl) ?_
                      refine awps_stp0 rfl rfl (by decide) (stp_move (.inr rfl) rfl) ?_
                      refine awps_stp0 rfl rfl (by decide) (stp_move (.inr rfl) rfl) ?_
                      refine awps_nil ?_
                      refine thenQ_nil ?_
                      refine awp_seq ?_
                      refine awp_region ?_
                      refine awps_stp0 rfl rfl (by decide) (stp_move (.inl rfl) rfl) ?_
                      refine awps_nil ?_
                      refine thenQ_nil ?_
                      refine awp_cond rfl (fun c5 => ?_) (fun c5 => ?_)
                      · try simp only [↓str_beq_t, ↓str_beq_f, decide_eq_true_eq, decide_eq_false_iff_not, Bool.not_eq_true', Bool.not_eq_false', Int.not_lt, Int.not_le, beq_iff_eq, beq_eq_false_iff_ne, bne_iff_ne, bne_eq_false_iff_eq, ne_eq] at c5
                        have hEC := guard_page ((i : Int) - 1) u v g65 (by assumption) (by assumption) (by assumption) (by assumption)
                        rw [if_pos c5, c5, Bool.true_and] at hEC
                        refine awp_region ?_
                        refine awps_stp0 rfl rfl (by decide) (stp_move (.inl rfl) rfl) ?_
                        refine awps_stp0 rfl rfl (by decide) (stp_move (.inr rfl) rfl) ?_
                        refine awps_stp0 rfl rfl (by decide) (stp_move (.inr rfl) rfl) ?_
                        refine awps_nil ?_
                        refine thenQ_nil ?_
                        refine awp_seq ?_
                        refine awp_region ?_
                        refine awps_stp0 rfl rfl (by decide) (stp_move (.inl rfl) rfl) ?_
                        refine awps_call (avs := [_]) true rfl rfl rfl (by decide) en_almagestlaw12_num rfl rfl (num12_ok _) rfl rfl ?_
                        refine awps_stp0 rfl rfl (by decide) (stp_move (.inl rfl) rfl) ?_
                        refine awps_stp0 rfl rfl (by decide) (stp_binI rfl rfl rfl rfl) ?_
                        refine awps_stp0 rfl rfl (by decide) (stp_move (.inl rfl) rfl) ?_
                        refine awps_split 94 rfl (fun g94 => ?_) (fun g94 => ?_)
                        · try simp only [↓str_beq_t, ↓str_beq_f, decide_eq_true_eq, decide_eq_false_iff_not, Bool.not_eq_true', Bool.not_eq_false', Int.not_lt, Int.not_le, beq_iff_eq, beq_eq_false_iff_ne, bne_iff_ne, bne_eq_false_iff_eq, ne_eq] at g94
                          exact absurd hEC.1 g94
                        try simp only [↓str_beq_t, ↓str_beq_f, decide_eq_true_eq, decide_eq_false_iff_not, Bool.not_eq_true', Bool.not_eq_false', Int.not_lt, Int.not_le, beq_iff_eq, beq_eq_false_iff_ne, bne_iff_ne, bne_eq_false_iff_eq, ne_eq] at g94
                        refine awps_g0 rfl rfl rfl (by decide) rfl (by decide) (stp_move (.inl rfl) rfl) ?_
                        refine awps_g0 rfl rfl rfl (by decide) rfl (by decide) (stp_move (.inl rfl) rfl) ?_
                        refine awps_g0 rfl rfl rfl (by decide) rfl (by decide) (stp_neB rfl ul_bool rfl rfl) ?_
                        refine awps_stp0 rfl rfl (by decide) (stp_pick rfl rfl rfl) ?_
                        refine awps_nil ?_
                        refine thenQ_nil ?_
                        refine awp_cond rfl (fun c6 => ?_) (fun c6 => ?_)
                        · try simp only [↓str_beq_t, ↓str_beq_f, decide_eq_true_eq, decide_eq_false_iff_not, Bool.not_eq_true', Bool.not_eq_false', Int.not_lt, Int.not_le, beq_iff_eq, beq_eq_false_iff_ne, bne_iff_ne, bne_eq_false_iff_eq, ne_eq] at c6
                          exact absurd hEC.2 c6
                        try simp only [↓str_beq_t, ↓str_beq_f, decide_eq_true_eq, decide_eq_false_iff_not, Bool.not_eq_true', Bool.not_eq_false', Int.not_lt, Int.not_le, beq_iff_eq, beq_eq_false_iff_ne, bne_iff_ne, bne_eq_false_iff_eq, ne_eq] at c6
                        refine awp_skip ?_
                        refine inQ_nil ?_
                        refine thenQ_nil ?_
                        refine awp_region ?_
                        refine awps_stp0 rfl rfl (by decide) (stp_move (.inl rfl) rfl) ?_
                        refine awps_stp0 rfl rfl (by decide) (stp_add rfl rfl rfl (by omega)) ?_
                        refine awps_stp0 rfl rfl (by decide) (stp_move (.inr rfl) rfl) ?_
                        refine awps_nil ?_
                        refine thenQ_nil ?_
                        refine ⟨?_, ?_, ?_⟩
                        · skip
                          omega
                        · skip
                          trivial
                        exact sub_re (SubT.cons (lk_eq rfl (by first | rfl | simp)) (SubT.cons (lk_eq rfl (by first | rfl | simp)) (SubT.cons (lk_eq rfl (by first | rfl | simp)) (SubT.cons (lk_eq rfl (by exact int_imm (by omega))) (SubT.nil))))) (SubO.cons (ok_eq rfl (by rfl)) (SubO.nil)) rfl rfl (noL' (noL hL) _)
                      try simp only [↓str_beq_t, ↓str_beq_f, decide_eq_true_eq, decide_eq_false_iff_not, Bool.not_eq_true', Bool.not_eq_false', Int.not_lt, Int.not_le, beq_iff_eq, beq_eq_false_iff_ne, bne_iff_ne, bne_eq_false_iff_eq, ne_eq] at c5
                      have hEC := guard_page ((i : Int) - 1) u v g65 (by assumption) (by assumption) (by assumption) (by assumption)
                      rw [if_neg (by simp [c5]), c5, Bool.false_and] at hEC
                      refine awp_skip ?_
                      refine thenQ_nil ?_
                      refine awp_seq ?_
                      refine awp_region ?_
                      refine awps_stp0 rfl rfl (by decide) (stp_move (.inl rfl) rfl) ?_
                      refine awps_call (avs := [_]) true rfl rfl rfl (by decide) en_almagestlaw12_num rfl rfl (num12_ok _) rfl rfl ?_
                      refine awps_stp0 rfl rfl (by decide) (stp_move (.inl rfl) rfl) ?_
                      refine awps_stp0 rfl rfl (by decide) (stp_binI rfl rfl rfl rfl) ?_
                      refine awps_stp0 rfl rfl (by decide) (stp_move (.inl rfl) rfl) ?_
                      refine awps_split 94 rfl (fun g94 => ?_) (fun g94 => ?_)
                      · try simp only [↓str_beq_t, ↓str_beq_f, decide_eq_true_eq, decide_eq_false_iff_not, Bool.not_eq_true', Bool.not_eq_false', Int.not_lt, Int.not_le, beq_iff_eq, beq_eq_false_iff_ne, bne_iff_ne, bne_eq_false_iff_eq, ne_eq] at g94
                        exact absurd hEC.1 g94
                      try simp only [↓str_beq_t, ↓str_beq_f, decide_eq_true_eq, decide_eq_false_iff_not, Bool.not_eq_true', Bool.not_eq_false', Int.not_lt, Int.not_le, beq_iff_eq, beq_eq_false_iff_ne, bne_iff_ne, bne_eq_false_iff_eq, ne_eq] at g94
                      refine awps_g0 rfl rfl rfl (by decide) rfl (by decide) (stp_move (.inl rfl) rfl) ?_
                      refine awps_g0 rfl rfl rfl (by decide) rfl (by decide) (stp_move (.inl rfl) rfl) ?_
                      refine awps_g0 rfl rfl rfl (by decide) rfl (by decide) (stp_neB rfl ul_bool rfl rfl) ?_
                      refine awps_stp0 rfl rfl (by decide) (stp_pick rfl rfl rfl) ?_
                      refine awps_nil ?_
                      refine thenQ_nil ?_
                      refine awp_cond rfl (fun c6 => ?_) (fun c6 => ?_)
                      · try simp only [↓str_beq_t, ↓str_beq_f, decide_eq_true_eq, decide_eq_false_iff_not, Bool.not_eq_true', Bool.not_eq_false', Int.not_lt, Int.not_le, beq_iff_eq, beq_eq_false_iff_ne, bne_iff_ne, bne_eq_false_iff_eq, ne_eq] at c6
                        exact absurd hEC.2 c6
                      try simp only [↓str_beq_t, ↓str_beq_f, decide_eq_true_eq, decide_eq_false_iff_not, Bool.not_eq_true', Bool.not_eq_false', Int.not_lt, Int.not_le, beq_iff_eq, beq_eq_false_iff_ne, bne_iff_ne, bne_eq_false_iff_eq, ne_eq] at c6
                      refine awp_skip ?_
                      refine inQ_nil ?_
                      refine thenQ_nil ?_
                      refine awp_region ?_
                      refine awps_stp0 rfl rfl (by decide) (stp_move (.inl rfl) rfl) ?_
                      refine awps_stp0 rfl rfl (by decide) (stp_add rfl rfl rfl (by omega)) ?_
                      refine awps_stp0 rfl rfl (by decide) (stp_move (.inr rfl) rfl) ?_
                      refine awps_nil ?_
                      refine thenQ_nil ?_
                      refine ⟨?_, ?_, ?_⟩
                      · skip
                        omega
                      · skip
                        trivial
                      exact sub_re (SubT.cons (lk_eq rfl (by first | rfl | simp)) (SubT.cons (lk_eq rfl (by first | rfl | simp)) (SubT.cons (lk_eq rfl (by first | rfl | simp)) (SubT.cons (lk_eq rfl (by exact int_imm (by omega))) (SubT.nil))))) (SubO.cons (ok_eq rfl (by rfl)) (SubO.nil)) rfl rfl (noL' (noL hL) _)
                    try simp only [↓str_beq_t, ↓str_beq_f, decide_eq_true_eq, decide_eq_false_iff_not, Bool.not_eq_true', Bool.not_eq_false', Int.not_lt, Int.not_le, beq_iff_eq, beq_eq_false_iff_ne, bne_iff_ne, bne_eq_false_iff_eq, ne_eq] at c4
                    have hEC := guardE_one (kind := (i : Int) - 1) (a := u) (b := v) (.inr (.inr (.inr (.inr c4))))
                    refine awp_skip ?_
                    refine thenQ_nil ?_
                    refine awp_seq ?_
                    refine awp_region ?_
                    refine awps_stp0 rfl rfl (by decide) (stp_move (.inl rfl) rfl) ?_
                    refine awps_call (avs := [_]) true rfl rfl rfl (by decide) en_almagestlaw12_num rfl rfl (num12_ok _) rfl rfl ?_
                    refine awps_stp0 rfl rfl (by decide) (stp_move (.inl rfl) rfl) ?_
                    refine awps_stp0 rfl rfl (by decide) (stp_binI rfl rfl rfl rfl) ?_
                    refine awps_stp0 rfl rfl (by decide) (stp_move (.inl rfl) rfl) ?_
                    refine awps_split 94 rfl (fun g94 => ?_) (fun g94 => ?_)
                    · try simp only [↓str_beq_t, ↓str_beq_f, decide_eq_true_eq, decide_eq_false_iff_not, Bool.not_eq_true', Bool.not_eq_false', Int.not_lt, Int.not_le, beq_iff_eq, beq_eq_false_iff_ne, bne_iff_ne, bne_eq_false_iff_eq, ne_eq] at g94
                      exact absurd hEC.1 g94
                    try simp only [↓str_beq_t, ↓str_beq_f, decide_eq_true_eq, decide_eq_false_iff_not, Bool.not_eq_true', Bool.not_eq_false', Int.not_lt, Int.not_le, beq_iff_eq, beq_eq_false_iff_ne, bne_iff_ne, bne_eq_false_iff_eq, ne_eq] at g94
                    refine awps_g0 rfl rfl rfl (by decide) rfl (by decide) (stp_move (.inl rfl) rfl) ?_
                    refine awps_g0 rfl rfl rfl (by decide) rfl (by decide) (stp_move (.inl rfl) rfl) ?_
                    refine awps_g0 rfl rfl rfl (by decide) rfl (by decide) (stp_neB rfl ul_bool rfl rfl) ?_
                    refine awps_stp0 rfl rfl (by decide) (stp_pick rfl rfl rfl) ?_
                    refine awps_nil ?_
                    refine thenQ_nil ?_
                    refine awp_cond rfl (fun c6 => ?_) (fun c6 => ?_)
                    · try simp only [↓str_beq_t, ↓str_beq_f, decide_eq_true_eq, decide_eq_false_iff_not, Bool.not_eq_true', Bool.not_eq_false', Int.not_lt, Int.not_le, beq_iff_eq, beq_eq_false_iff_ne, bne_iff_ne, bne_eq_false_iff_eq, ne_eq] at c6
                      exact absurd hEC.2 c6
                    try simp only [↓str_beq_t, ↓str_beq_f, decide_eq_true_eq, decide_eq_false_iff_not, Bool.not_eq_true', Bool.not_eq_false', Int.not_lt, Int.not_le, beq_iff_eq, beq_eq_false_iff_ne, bne_iff_ne, bne_eq_false_iff_eq, ne_eq] at c6
                    refine awp_skip ?_
                    refine inQ_nil ?_
                    refine thenQ_nil ?_
                    refine awp_region ?_
                    refine awps_stp0 rfl rfl (by decide) (stp_move (.inl rfl) rfl) ?_
                    refine awps_stp0 rfl rfl (by decide) (stp_add rfl rfl rfl (by omega)) ?_
                    refine awps_stp0 rfl rfl (by decide) (stp_move (.inr rfl) rfl) ?_
                    refine awps_nil ?_
                    refine thenQ_nil ?_
                    refine ⟨?_, ?_, ?_⟩
                    · skip
                      omega
                    · skip
                      trivial
                    exact sub_re (SubT.cons (lk_eq rfl (by first | rfl | simp)) (SubT.cons (lk_eq rfl (by first | rfl | simp)) (SubT.cons (lk_eq rfl (by first | rfl | simp)) (SubT.cons (lk_eq rfl (by exact int_imm (by omega))) (SubT.nil))))) (SubO.cons (ok_eq rfl (by rfl)) (SubO.nil)) rfl rfl (noL' (noL hL) _)
                  try simp only [↓str_beq_t, ↓str_beq_f, decide_eq_true_eq, decide_eq_false_iff_not, Bool.not_eq_true', Bool.not_eq_false', Int.not_lt, Int.not_le, beq_iff_eq, beq_eq_false_iff_ne, bne_iff_ne, bne_eq_false_iff_eq, ne_eq] at g77
                  have hEC := guardE_one (kind := (i : Int) - 1) (a := u) (b := v) (.inr (.inr (.inr (.inl g77))))
                  refine awps_gs rfl rfl rfl rfl (by decide) rfl (by decide) ?_
                  refine awps_gs rfl rfl rfl rfl (by decide) rfl (by decide) ?_
                  refine awps_stp0 rfl rfl (by decide) (stp_pick rfl rfl rfl) ?_
                  refine awps_nil ?_
                  refine thenQ_nil ?_
                  refine awp_condF rfl ?_
                  refine awp_skip ?_
                  refine thenQ_nil ?_
                  refine awp_seq ?_
                  refine awp_region ?_
                  refine awps_stp0 rfl rfl (by decide) (stp_move (.inl rfl) rfl) ?_
                  refine awps_call (avs := [_]) true rfl rfl rfl (by decide) en_almagestlaw12_num rfl rfl (num12_ok _) rfl rfl ?_
                  refine awps_stp0 rfl rfl (by decide) (stp_move (.inl rfl) rfl) ?_
                  refine awps_stp0 rfl rfl (by decide) (stp_binI rfl rfl rfl rfl) ?_
                  refine awps_stp0 rfl rfl (by decide) (stp_move (.inl rfl) rfl) ?_
                  refine awps_split 94 rfl (fun g94 => ?_) (fun g94 => ?_)
                  · try simp only [↓str_beq_t, ↓str_beq_f, decide_eq_true_eq, decide_eq_false_iff_not, Bool.not_eq_true', Bool.not_eq_false', Int.not_lt, Int.not_le, beq_iff_eq, beq_eq_false_iff_ne, bne_iff_ne, bne_eq_false_iff_eq, ne_eq] at g94
                    exact absurd hEC.1 g94
                  try simp only [↓str_beq_t, ↓str_beq_f, decide_eq_true_eq, decide_eq_false_iff_not, Bool.not_eq_true', Bool.not_eq_false', Int.not_lt, Int.not_le, beq_iff_eq, beq_eq_false_iff_ne, bne_iff_ne, bne_eq_false_iff_eq, ne_eq] at g94
                  refine awps_g0 rfl rfl rfl (by decide) rfl (by decide) (stp_move (.inl rfl) rfl) ?_
                  refine awps_g0 rfl rfl rfl (by decide) rfl (by decide) (stp_move (.inl rfl) rfl) ?_
                  refine awps_g0 rfl rfl rfl (by decide) rfl (by decide) (stp_neB rfl ul_bool rfl rfl) ?_
                  refine awps_stp0 rfl rfl (by decide) (stp_pick rfl rfl rfl) ?_
                  refine awps_nil ?_
                  refine thenQ_nil ?_
                  refine awp_cond rfl (fun c6 => ?_) (fun c6 => ?_)
                  · try simp only [↓str_beq_t, ↓str_beq_f, decide_eq_true_eq, decide_eq_false_iff_not, Bool.not_eq_true', Bool.not_eq_false', Int.not_lt, Int.not_le, beq_iff_eq, beq_eq_false_iff_ne, bne_iff_ne, bne_eq_false_iff_eq, ne_eq] at c6
                    exact absurd hEC.2 c6
                  try simp only [↓str_beq_t, ↓str_beq_f, decide_eq_true_eq, decide_eq_false_iff_not, Bool.not_eq_true', Bool.not_eq_false', Int.not_lt, Int.not_le, beq_iff_eq, beq_eq_false_iff_ne, bne_iff_ne, bne_eq_false_iff_eq, ne_eq] at c6
                  refine awp_skip ?_
                  refine inQ_nil ?_
                  refine thenQ_nil ?_
                  refine awp_region ?_
                  refine awps_stp0 rfl rfl (by decide) (stp_move (.inl rfl) rfl) ?_
                  refine awps_stp0 rfl rfl (by decide) (stp_add rfl rfl rfl (by omega)) ?_
                  refine awps_stp0 rfl rfl (by decide) (stp_move (.inr rfl) rfl) ?_
                  refine awps_nil ?_
                  refine thenQ_nil ?_
                  refine ⟨?_, ?_, ?_⟩
                  · skip
                    omega
                  · skip
                    trivial
                  exact sub_re (SubT.cons (lk_eq rfl (by first | rfl | simp)) (SubT.cons (lk_eq rfl (by first | rfl | simp)) (SubT.cons (lk_eq rfl (by first | rfl | simp)) (SubT.cons (lk_eq rfl (by exact int_imm (by omega))) (SubT.nil))))) (SubO.cons (ok_eq rfl (by rfl)) (SubO.nil)) rfl rfl (noL' (noL hL) _)
                try simp only [↓str_beq_t, ↓str_beq_f, decide_eq_true_eq, decide_eq_false_iff_not, Bool.not_eq_true', Bool.not_eq_false', Int.not_lt, Int.not_le, beq_iff_eq, beq_eq_false_iff_ne, bne_iff_ne, bne_eq_false_iff_eq, ne_eq] at g73
                have hEC := guardE_one (kind := (i : Int) - 1) (a := u) (b := v) (.inr (.inr (.inl g73)))
                refine awps_gs rfl rfl rfl rfl (by decide) rfl (by decide) ?_
                refine awps_gs rfl rfl rfl rfl (by decide) rfl (by decide) ?_
                refine awps_stp0 rfl rfl (by decide) (stp_pick rfl rfl rfl) ?_
                refine awps_stp0 rfl rfl (by decide) (stp_move (.inl rfl) rfl) ?_
                refine awps_gs rfl rfl rfl rfl (by decide) rfl (by decide) ?_
                refine awps_gs rfl rfl rfl rfl (by decide) rfl (by decide) ?_
                refine awps_stp0 rfl rfl (by decide) (stp_pick rfl rfl rfl) ?_
                refine awps_nil ?_
                refine thenQ_nil ?_
                refine awp_condF rfl ?_
                refine awp_skip ?_
                refine thenQ_nil ?_
                refine awp_seq ?_
                refine awp_region ?_
                refine awps_stp0 rfl rfl (by decide) (stp_move (.inl rfl) rfl) ?_
                refine awps_call (avs := [_]) true rfl rfl rfl (by decide) en_almagestlaw12_num rfl rfl (num12_ok _) rfl rfl ?_
                refine awps_stp0 rfl rfl (by decide) (stp_move (.inl rfl) rfl) ?_
                refine awps_stp0 rfl rfl (by decide) (stp_binI rfl rfl rfl rfl) ?_
                refine awps_stp0 rfl rfl (by decide) (stp_move (.inl rfl) rfl) ?_
                refine awps_split 94 rfl (fun g94 => ?_) (fun g94 => ?_)
                · try simp only [↓str_beq_t, ↓str_beq_f, decide_eq_true_eq, decide_eq_false_iff_not, Bool.not_eq_true', Bool.not_eq_false', Int.not_lt, Int.not_le, beq_iff_eq, beq_eq_false_iff_ne, bne_iff_ne, bne_eq_false_iff_eq, ne_eq] at g94
                  exact absurd hEC.1 g94
                try simp only [↓str_beq_t, ↓str_beq_f, decide_eq_true_eq, decide_eq_false_iff_not, Bool.not_eq_true', Bool.not_eq_false', Int.not_lt, Int.not_le, beq_iff_eq, beq_eq_false_iff_ne, bne_iff_ne, bne_eq_false_iff_eq, ne_eq] at g94
                refine awps_g0 rfl rfl rfl (by decide) rfl (by decide) (stp_move (.inl rfl) rfl) ?_
                refine awps_g0 rfl rfl rfl (by decide) rfl (by decide) (stp_move (.inl rfl) rfl) ?_
                refine awps_g0 rfl rfl rfl (by decide) rfl (by decide) (stp_neB rfl ul_bool rfl rfl) ?_
                refine awps_stp0 rfl rfl (by decide) (stp_pick rfl rfl rfl) ?_
                refine awps_nil ?_
                refine thenQ_nil ?_
                refine awp_cond rfl (fun c6 => ?_) (fun c6 => ?_)
                · try simp only [↓str_beq_t, ↓str_beq_f, decide_eq_true_eq, decide_eq_false_iff_not, Bool.not_eq_true', Bool.not_eq_false', Int.not_lt, Int.not_le, beq_iff_eq, beq_eq_false_iff_ne, bne_iff_ne, bne_eq_false_iff_eq, ne_eq] at c6
                  exact absurd hEC.2 c6
                try simp only [↓str_beq_t, ↓str_beq_f, decide_eq_true_eq, decide_eq_false_iff_not, Bool.not_eq_true', Bool.not_eq_false', Int.not_lt, Int.not_le, beq_iff_eq, beq_eq_false_iff_ne, bne_iff_ne, bne_eq_false_iff_eq, ne_eq] at c6
                refine awp_skip ?_
                refine inQ_nil ?_
                refine thenQ_nil ?_
                refine awp_region ?_
                refine awps_stp0 rfl rfl (by decide) (stp_move (.inl rfl) rfl) ?_
                refine awps_stp0 rfl rfl (by decide) (stp_add rfl rfl rfl (by omega)) ?_
                refine awps_stp0 rfl rfl (by decide) (stp_move (.inr rfl) rfl) ?_
                refine awps_nil ?_
                refine thenQ_nil ?_
                refine ⟨?_, ?_, ?_⟩
                · skip
                  omega
                · skip
                  trivial
                exact sub_re (SubT.cons (lk_eq rfl (by first | rfl | simp)) (SubT.cons (lk_eq rfl (by first | rfl | simp)) (SubT.cons (lk_eq rfl (by first | rfl | simp)) (SubT.cons (lk_eq rfl (by exact int_imm (by omega))) (SubT.nil))))) (SubO.cons (ok_eq rfl (by rfl)) (SubO.nil)) rfl rfl (noL' (noL hL) _)
              try simp only [↓str_beq_t, ↓str_beq_f, decide_eq_true_eq, decide_eq_false_iff_not, Bool.not_eq_true', Bool.not_eq_false', Int.not_lt, Int.not_le, beq_iff_eq, beq_eq_false_iff_ne, bne_iff_ne, bne_eq_false_iff_eq, ne_eq] at g69
              have hEC := guardE_one (kind := (i : Int) - 1) (a := u) (b := v) (.inr (.inl g69))
              refine awps_gs rfl rfl rfl rfl (by decide) rfl (by decide) ?_
              refine awps_gs rfl rfl rfl rfl (by decide) rfl (by decide) ?_
              refine awps_stp0 rfl rfl (by decide) (stp_pick rfl rfl rfl) ?_
              refine awps_stp0 rfl rfl (by decide) (stp_move (.inl rfl) rfl) ?_
              refine awps_gs rfl rfl rfl rfl (by decide) rfl (by decide) ?_
              refine awps_gs rfl rfl rfl rfl (by decide) rfl (by decide) ?_
              refine awps_stp0 rfl rfl (by decide) (stp_pick rfl rfl rfl) ?_
              refine awps_stp0 rfl rfl (by decide) (stp_move (.inl rfl) rfl) ?_
              refine awps_gs rfl rfl rfl rfl (by decide) rfl (by decide) ?_
              refine awps_gs rfl rfl rfl rfl (by decide) rfl (by decide) ?_
              refine awps_stp0 rfl rfl (by decide) (stp_pick rfl rfl rfl) ?_
              refine awps_nil ?_
              refine thenQ_nil ?_
              refine awp_condF rfl ?_
              refine awp_skip ?_
              refine thenQ_nil ?_
              refine awp_seq ?_
              refine awp_region ?_
              refine awps_stp0 rfl rfl (by decide) (stp_move (.inl rfl) rfl) ?_
              refine awps_call (avs := [_]) true rfl rfl rfl (by decide) en_almagestlaw12_num rfl rfl (num12_ok _) rfl rfl ?_
              refine awps_stp0 rfl rfl (by decide) (stp_move (.inl rfl) rfl) ?_
              refine awps_stp0 rfl rfl (by decide) (stp_binI rfl rfl rfl rfl) ?_
              refine awps_stp0 rfl rfl (by decide) (stp_move (.inl rfl) rfl) ?_
              refine awps_split 94 rfl (fun g94 => ?_) (fun g94 => ?_)
              · try simp only [↓str_beq_t, ↓str_beq_f, decide_eq_true_eq, decide_eq_false_iff_not, Bool.not_eq_true', Bool.not_eq_false', Int.not_lt, Int.not_le, beq_iff_eq, beq_eq_false_iff_ne, bne_iff_ne, bne_eq_false_iff_eq, ne_eq] at g94
                exact absurd hEC.1 g94
              try simp only [↓str_beq_t, ↓str_beq_f, decide_eq_true_eq, decide_eq_false_iff_not, Bool.not_eq_true', Bool.not_eq_false', Int.not_lt, Int.not_le, beq_iff_eq, beq_eq_false_iff_ne, bne_iff_ne, bne_eq_false_iff_eq, ne_eq] at g94
              refine awps_g0 rfl rfl rfl (by decide) rfl (by decide) (stp_move (.inl rfl) rfl) ?_
              refine awps_g0 rfl rfl rfl (by decide) rfl (by decide) (stp_move (.inl rfl) rfl) ?_
              refine awps_g0 rfl rfl rfl (by decide) rfl (by decide) (stp_neB rfl ul_bool rfl rfl) ?_
              refine awps_stp0 rfl rfl (by decide) (stp_pick rfl rfl rfl) ?_
              refine awps_nil ?_
              refine thenQ_nil ?_
              refine awp_cond rfl (fun c6 => ?_) (fun c6 => ?_)
              · try simp only [↓str_beq_t, ↓str_beq_f, decide_eq_true_eq, decide_eq_false_iff_not, Bool.not_eq_true', Bool.not_eq_false', Int.not_lt, Int.not_le, beq_iff_eq, beq_eq_false_iff_ne, bne_iff_ne, bne_eq_false_iff_eq, ne_eq] at c6
                exact absurd hEC.2 c6
              try simp only [↓str_beq_t, ↓str_beq_f, decide_eq_true_eq, decide_eq_false_iff_not, Bool.not_eq_true', Bool.not_eq_false', Int.not_lt, Int.not_le, beq_iff_eq, beq_eq_false_iff_ne, bne_iff_ne, bne_eq_false_iff_eq, ne_eq] at c6
              refine awp_skip ?_
              refine inQ_nil ?_
              refine thenQ_nil ?_
              refine awp_region ?_
              refine awps_stp0 rfl rfl (by decide) (stp_move (.inl rfl) rfl) ?_
              refine awps_stp0 rfl rfl (by decide) (stp_add rfl rfl rfl (by omega)) ?_
              refine awps_stp0 rfl rfl (by decide) (stp_move (.inr rfl) rfl) ?_
              refine awps_nil ?_
              refine thenQ_nil ?_
              refine ⟨?_, ?_, ?_⟩
              · skip
                omega
              · skip
                trivial
              exact sub_re (SubT.cons (lk_eq rfl (by first | rfl | simp)) (SubT.cons (lk_eq rfl (by first | rfl | simp)) (SubT.cons (lk_eq rfl (by first | rfl | simp)) (SubT.cons (lk_eq rfl (by exact int_imm (by omega))) (SubT.nil))))) (SubO.cons (ok_eq rfl (by rfl)) (SubO.nil)) rfl rfl (noL' (noL hL) _)
            try simp only [↓str_beq_t, ↓str_beq_f, decide_eq_true_eq, decide_eq_false_iff_not, Bool.not_eq_true', Bool.not_eq_false', Int.not_lt, Int.not_le, beq_iff_eq, beq_eq_false_iff_ne, bne_iff_ne, bne_eq_false_iff_eq, ne_eq] at g65
            have hEC := guardE_one (kind := (i : Int) - 1) (a := u) (b := v) (.inl g65)
            refine awps_gs rfl rfl rfl rfl (by decide) rfl (by decide) ?_
            refine awps_gs rfl rfl rfl rfl (by decide) rfl (by decide) ?_
            refine awps_stp0 rfl rfl (by decide) (stp_pick rfl rfl rfl) ?_
            refine awps_stp0 rfl rfl (by decide) (stp_move (.inl rfl) rfl) ?_
            refine awps_gs rfl rfl rfl rfl (by decide) rfl (by decide) ?_
            refine awps_gs rfl rfl rfl rfl (by decide) rfl (by decide) ?_
            refine awps_stp0 rfl rfl (by decide) (stp_pick rfl rfl rfl) ?_
            refine awps_stp0 rfl rfl (by decide) (stp_move (.inl rfl) rfl) ?_
            refine awps_gs rfl rfl rfl rfl (by decide) rfl (by decide) ?_
            refine awps_gs rfl rfl rfl rfl (by decide) rfl (by decide) ?_
            refine awps_stp0 rfl rfl (by decide) (stp_pick rfl rfl rfl) ?_
            refine awps_stp0 rfl rfl (by decide) (stp_move (.inl rfl) rfl) ?_
            refine awps_gs rfl rfl rfl rfl (by decide) rfl (by decide) ?_
            refine awps_gs rfl rfl rfl rfl (by decide) rfl (by decide) ?_
            refine awps_stp0 rfl rfl (by decide) (stp_pick rfl rfl rfl) ?_
            refine awps_nil ?_
            refine thenQ_nil ?_
            refine awp_condF rfl ?_
            refine awp_skip ?_
            refine thenQ_nil ?_
            refine awp_seq ?_
            refine awp_region ?_
            refine awps_stp0 rfl rfl (by decide) (stp_move (.inl rfl) rfl) ?_
            refine awps_call (avs := [_]) true rfl rfl rfl (by decide) en_almagestlaw12_num rfl rfl (num12_ok _) rfl rfl ?_
            refine awps_stp0 rfl rfl (by decide) (stp_move (.inl rfl) rfl) ?_
            refine awps_stp0 rfl rfl (by decide) (stp_binI rfl rfl rfl rfl) ?_
            refine awps_stp0 rfl rfl (by decide) (stp_move (.inl rfl) rfl) ?_
            refine awps_split 94 rfl (fun g94 => ?_) (fun g94 => ?_)
            · try simp only [↓str_beq_t, ↓str_beq_f, decide_eq_true_eq, decide_eq_false_iff_not, Bool.not_eq_true', Bool.not_eq_false', Int.not_lt, Int.not_le, beq_iff_eq, beq_eq_false_iff_ne, bne_iff_ne, bne_eq_false_iff_eq, ne_eq] at g94
              exact absurd hEC.1 g94
            try simp only [↓str_beq_t, ↓str_beq_f, decide_eq_true_eq, decide_eq_false_iff_not, Bool.not_eq_true', Bool.not_eq_false', Int.not_lt, Int.not_le, beq_iff_eq, beq_eq_false_iff_ne, bne_iff_ne, bne_eq_false_iff_eq, ne_eq] at g94
            refine awps_g0 rfl rfl rfl (by decide) rfl (by decide) (stp_move (.inl rfl) rfl) ?_
            refine awps_g0 rfl rfl rfl (by decide) rfl (by decide) (stp_move (.inl rfl) rfl) ?_
            refine awps_g0 rfl rfl rfl (by decide) rfl (by decide) (stp_neB rfl ul_bool rfl rfl) ?_
            refine awps_stp0 rfl rfl (by decide) (stp_pick rfl rfl rfl) ?_
            refine awps_nil ?_
            refine thenQ_nil ?_
            refine awp_cond rfl (fun c6 => ?_) (fun c6 => ?_)
            · try simp only [↓str_beq_t, ↓str_beq_f, decide_eq_true_eq, decide_eq_false_iff_not, Bool.not_eq_true', Bool.not_eq_false', Int.not_lt, Int.not_le, beq_iff_eq, beq_eq_false_iff_ne, bne_iff_ne, bne_eq_false_iff_eq, ne_eq] at c6
              exact absurd hEC.2 c6
            try simp only [↓str_beq_t, ↓str_beq_f, decide_eq_true_eq, decide_eq_false_iff_not, Bool.not_eq_true', Bool.not_eq_false', Int.not_lt, Int.not_le, beq_iff_eq, beq_eq_false_iff_ne, bne_iff_ne, bne_eq_false_iff_eq, ne_eq] at c6
            refine awp_skip ?_
            refine inQ_nil ?_
            refine thenQ_nil ?_
            refine awp_region ?_
            refine awps_stp0 rfl rfl (by decide) (stp_move (.inl rfl) rfl) ?_
            refine awps_stp0 rfl rfl (by decide) (stp_add rfl rfl rfl (by omega)) ?_
            refine awps_stp0 rfl rfl (by decide) (stp_move (.inr rfl) rfl) ?_
            refine awps_nil ?_
            refine thenQ_nil ?_
            refine ⟨?_, ?_, ?_⟩
            · skip
              omega
            · skip
              trivial
            exact sub_re (SubT.cons (lk_eq rfl (by first | rfl | simp)) (SubT.cons (lk_eq rfl (by first | rfl | simp)) (SubT.cons (lk_eq rfl (by first | rfl | simp)) (SubT.cons (lk_eq rfl (by exact int_imm (by omega))) (SubT.nil))))) (SubO.cons (ok_eq rfl (by rfl)) (SubO.nil)) rfl rfl (noL' (noL hL) _)
          try simp only [↓str_beq_t, ↓str_beq_f, decide_eq_true_eq, decide_eq_false_iff_not, Bool.not_eq_true', Bool.not_eq_false', Int.not_lt, Int.not_le, beq_iff_eq, beq_eq_false_iff_ne, bne_iff_ne, bne_eq_false_iff_eq, ne_eq] at c3
          refine awp_exit ?_
          refine thenQ_exit (thenQ_exit (inQ_hit ?_))
          refine inQ_nil ?_
          refine thenQ_nil ?_
          refine awp_region ?_
          refine awps_stp0 rfl rfl (by decide) (stp_move (.inl rfl) rfl) ?_
          refine awps_stp0 rfl rfl (by decide) (stp_add rfl rfl rfl (by omega)) ?_
          refine awps_stp0 rfl rfl (by decide) (stp_move (.inr rfl) rfl) ?_
          refine awps_nil ?_
          refine thenQ_nil ?_
          refine ⟨?_, ?_, ?_⟩
          · skip
            omega
          · skip
            trivial
          exact sub_re (SubT.cons (lk_eq rfl (by first | rfl | simp)) (SubT.cons (lk_eq rfl (by first | rfl | simp)) (SubT.cons (lk_eq rfl (by first | rfl | simp)) (SubT.nil)))) (SubO.cons (ok_eq rfl (by rfl)) (SubO.nil)) rfl rfl (noL' (noL hL) _)
        try simp only [↓str_beq_t, ↓str_beq_f, decide_eq_true_eq, decide_eq_false_iff_not, Bool.not_eq_true', Bool.not_eq_false', Int.not_lt, Int.not_le, beq_iff_eq, beq_eq_false_iff_ne, bne_iff_ne, bne_eq_false_iff_eq, ne_eq] at c2
        refine awp_exit ?_
        refine thenQ_exit (thenQ_exit (inQ_hit ?_))
        refine inQ_nil ?_
        refine thenQ_nil ?_
        refine awp_region ?_
        refine awps_stp0 rfl rfl (by decide) (stp_move (.inl rfl) rfl) ?_
        refine awps_stp0 rfl rfl (by decide) (stp_add rfl rfl rfl (by omega)) ?_
        refine awps_stp0 rfl rfl (by decide) (stp_move (.inr rfl) rfl) ?_
        refine awps_nil ?_
        refine thenQ_nil ?_
        refine ⟨?_, ?_, ?_⟩
        · skip
          omega
        · skip
          trivial
        exact sub_re (SubT.cons (lk_eq rfl (by first | rfl | simp)) (SubT.cons (lk_eq rfl (by first | rfl | simp)) (SubT.nil))) (SubO.cons (ok_eq rfl (by rfl)) (SubO.nil)) rfl rfl (noL' (noL hL) _)
      try simp only [↓str_beq_t, ↓str_beq_f, decide_eq_true_eq, decide_eq_false_iff_not, Bool.not_eq_true', Bool.not_eq_false', Int.not_lt, Int.not_le, beq_iff_eq, beq_eq_false_iff_ne, bne_iff_ne, bne_eq_false_iff_eq, ne_eq] at g34
      refine awps_gs rfl rfl rfl rfl (by decide) rfl (by decide) ?_
      refine awps_gs rfl rfl rfl rfl (by decide) rfl (by decide) ?_
      refine awps_stp0 rfl rfl (by decide) (stp_pick rfl rfl rfl) ?_
      refine awps_nil ?_
      refine thenQ_nil ?_
      refine awp_condF rfl ?_
      refine awp_exit ?_
      refine thenQ_exit (thenQ_exit (inQ_hit ?_))
      refine inQ_nil ?_
      refine thenQ_nil ?_
      refine awp_region ?_
      refine awps_stp0 rfl rfl (by decide) (stp_move (.inl rfl) rfl) ?_
      refine awps_stp0 rfl rfl (by decide) (stp_add rfl rfl rfl (by omega)) ?_
      refine awps_stp0 rfl rfl (by decide) (stp_move (.inr rfl) rfl) ?_
      refine awps_nil ?_
      refine thenQ_nil ?_
      refine ⟨?_, ?_, ?_⟩
      · skip
        omega
      · skip
        trivial
      exact sub_re (SubT.cons (lk_eq rfl (by first | rfl | simp)) (SubT.cons (lk_eq rfl (by first | rfl | simp)) (SubT.nil))) (SubO.cons (ok_eq rfl (by rfl)) (SubO.nil)) rfl rfl (noL' (noL hL) _)
    try simp only [↓str_beq_t, ↓str_beq_f, decide_eq_true_eq, decide_eq_false_iff_not, Bool.not_eq_true', Bool.not_eq_false', Int.not_lt, Int.not_le, beq_iff_eq, beq_eq_false_iff_ne, bne_iff_ne, bne_eq_false_iff_eq, ne_eq] at c1
    refine awp_exit ?_
    refine thenQ_exit (thenQ_exit (inQ_hit ?_))
    refine thenQ_nil ?_
    refine awp_seq ?_
    refine awp_region ?_
    refine awps_call (avs := []) true rfl rfl rfl (by decide) en_almagestlaw12_wakes rfl rfl (wakes12_ok) rfl rfl ?_
    refine awps_stp0 rfl rfl (by decide) (stp_move (.inr rfl) rfl) ?_
    refine awps_nil ?_
    refine thenQ_nil ?_
    refine awp_ret ?_
    -- leaf 0Fg22T1F
    refine ret0 (noL hL) (.inl rfl) (resAs_tmp rfl (resAs_nil)) ?_ ?_
    · rfl
    exact ⟨rfl, rfl⟩
  try simp only [↓str_beq_t, ↓str_beq_f, decide_eq_true_eq, decide_eq_false_iff_not, Bool.not_eq_true', Bool.not_eq_false', Int.not_lt, Int.not_le, beq_iff_eq, beq_eq_false_iff_ne, bne_iff_ne, bne_eq_false_iff_eq, ne_eq] at g22
  refine awps_gs rfl rfl rfl rfl (by decide) rfl (by decide) ?_
  refine awps_gs rfl rfl rfl rfl (by decide) rfl (by decide) ?_
  refine awps_stp0 rfl rfl (by decide) (stp_pick rfl rfl rfl) ?_
  refine awps_nil ?_
  refine thenQ_nil ?_
  refine awp_condF rfl ?_
  refine awp_exit ?_
  refine thenQ_exit (thenQ_exit (inQ_hit ?_))
  refine thenQ_nil ?_
  refine awp_seq ?_
  refine awp_region ?_
  refine awps_call (avs := []) true rfl rfl rfl (by decide) en_almagestlaw12_wakes rfl rfl (wakes12_ok) rfl rfl ?_
  refine awps_stp0 rfl rfl (by decide) (stp_move (.inr rfl) rfl) ?_
  refine awps_nil ?_
  refine thenQ_nil ?_
  refine awp_ret ?_
  -- leaf 0Fg22F
  refine ret0 (noL hL) (.inl rfl) (resAs_tmp rfl (resAs_nil)) ?_ ?_
  · rfl
  exact ⟨rfl, rfl⟩
end Go.Proofs.Ytdecgkhdbfgldaa
