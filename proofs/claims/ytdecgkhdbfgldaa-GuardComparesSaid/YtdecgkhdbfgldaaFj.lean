/- Walks: comparisons. -/
import Derived.Test.YtdecgkhdbfgldaaFi
set_option linter.unusedVariables false
set_option linter.unusedSimpArgs false
set_option maxRecDepth 8000
namespace Go.Proofs.Ytdecgkhdbfgldaa
open Go

def knownC (kind : Int) (a b : Tm) : Bool :=
  if kind = 1 ∨ kind = 2 then (if a.kind ≠ 2 ∨ b.kind ≠ 2 then false else decide (cmpT 5 a b < 0 ∨ (kind = 2 ∧ cmpT 5 a b = 0)))
  else (decide (cmpT 5 a b = 0) == decide (kind = 3))
theorem knownCompare_ok (kind : Int) (a b : Tm) (hd : dle 5 a) (ha : a.wf) (hb : b.wf) : PF 50 [iv kind, tmA false a, tmA false b] (bv (knownC kind a b)) := by
  refine AC_intro Try.func50 rfl Try.ntmps50 (Nat.le_of_ble_eq_true rfl) fun c hL => ?_
  refine awp_seq ?_
  refine awp_region ?_
  refine awps_stp1 rfl rfl (by decide) (stp_box 4 rfl rfl rfl) rfl ?_
  refine awps_stp1 rfl rfl (by decide) (stp_box 5 rfl rfl rfl) rfl ?_
  refine awps_stp0 rfl rfl (by decide) (stp_move (.inr rfl) rfl) ?_
  refine awps_nil ?_
  refine thenQ_nil ?_
  refine awp_seq ?_
  refine awp_region ?_
  first | refine awps_stp0 rfl rfl (by decide) (stp_load_all rfl tf_api_Term rfl rfl rfl rfl) ?_ | refine awps_stp0 rfl rfl (by decide) (stp_load rfl tf_api_Term rfl rfl rfl rfl rfl) ?_ | refine awps_stp0 rfl rfl (by decide) (stp_load_elpa rfl tf_api_Term rfl rfl) ?_ | refine awps_stp0 rfl rfl (by decide) (stp_load_elpn rfl tf_api_Term rfl rfl rfl) ?_
  first | refine awps_stp0 rfl rfl (by decide) (stp_load_all rfl tf_api_Term rfl rfl rfl rfl) ?_ | refine awps_stp0 rfl rfl (by decide) (stp_load rfl tf_api_Term rfl rfl rfl rfl rfl) ?_ | refine awps_stp0 rfl rfl (by decide) (stp_load_elpa rfl tf_api_Term rfl rfl) ?_ | refine awps_stp0 rfl rfl (by decide) (stp_load_elpn rfl tf_api_Term rfl rfl rfl) ?_
  refine awps_call (avs := [_, _]) true rfl rfl rfl (by decide) en_term_Compare rfl rfl (Compare_ok 5 a b hd ha hb) rfl rfl ?_
  refine awps_stp0 rfl rfl (by decide) (stp_move (.inr rfl) rfl) ?_
  refine awps_nil ?_
  refine thenQ_nil ?_
  refine awp_seq ?_
  refine awp_seq ?_
  refine awp_region ?_
  refine awps_stp0 rfl rfl (by decide) (stp_move (.inl rfl) rfl) ?_
  refine awps_stp0 rfl rfl (by decide) (stp_binI rfl rfl rfl rfl) ?_
  refine awps_stp0 rfl rfl (by decide) (stp_move (.inl rfl) rfl) ?_
  refine awps_split 13 rfl (fun g13 => ?_) (fun g13 => ?_)
  · try simp only [↓str_beq_t, ↓str_beq_f, decide_eq_true_eq, decide_eq_false_iff_not, Bool.not_eq_true', Bool.not_eq_false', Int.not_lt, Int.not_le, beq_iff_eq, beq_eq_false_iff_ne, bne_iff_ne, bne_eq_false_iff_eq, ne_eq] at g13
    refine awps_gs rfl rfl rfl rfl (by decide) rfl (by decide) ?_
    refine awps_gs rfl rfl rfl rfl (by decide) rfl (by decide) ?_
    refine awps_stp0 rfl rfl (by decide) (stp_pick rfl rfl rfl) ?_
    refine awps_nil ?_
    refine thenQ_nil ?_
    refine awp_condT rfl ?_
    refine awp_seq ?_
    refine awp_seq ?_
    refine awp_region ?_
    first | refine awps_stp0 rfl rfl (by decide) (stp_fieldAddr rfl fo_api_Term_0 rfl) ?_ | refine awps_stp0 rfl rfl (by decide) (stp_fieldAddr_elp rfl fo_api_Term_0 rfl) ?_
    first | refine awps_stp0 rfl rfl (by decide) (stp_load rfl tf_int rfl rfl rfl rfl rfl) ?_ | refine awps_stp0 rfl rfl (by decide) (stp_load_elp1 rfl tf_int rfl) ?_ | refine awps_stp0 rfl rfl (by decide) (stp_load_elpn rfl tf_int rfl rfl rfl) ?_
    refine awps_stp0 rfl rfl (by decide) (stp_binI rfl rfl rfl rfl) ?_
    refine awps_stp0 rfl rfl (by decide) (stp_move (.inl rfl) rfl) ?_
    refine awps_split 20 rfl (fun g20 => ?_) (fun g20 => ?_)
    · try simp only [↓str_beq_t, ↓str_beq_f, decide_eq_true_eq, decide_eq_false_iff_not, Bool.not_eq_true', Bool.not_eq_false', Int.not_lt, Int.not_le, beq_iff_eq, beq_eq_false_iff_ne, bne_iff_ne, bne_eq_false_iff_eq, ne_eq] at g20
      refine awps_gs rfl rfl rfl rfl (by decide) rfl (by decide) ?_
      refine awps_gs rfl rfl rfl rfl (by decide) rfl (by decide) ?_
      refine awps_gs rfl rfl rfl rfl (by decide) rfl (by decide) ?_
      refine awps_stp0 rfl rfl (by decide) (stp_pick rfl rfl rfl) ?_
      refine awps_nil ?_
      refine thenQ_nil ?_
      refine awp_condT rfl ?_
      refine awp_seq ?_
      refine awp_region ?_
      refine awps_stp0 rfl rfl (by decide) (stp_move (.inr rfl) rfl) ?_
      refine awps_nil ?_
      refine thenQ_nil ?_
      refine awp_ret ?_
      refine thenQ_ret (thenQ_ret (?_))
      -- leaf g13Tg20T
      refine ret0 (noL hL) (.inl rfl) (resAs_tmp rfl (resAs_nil)) ?_ ?_
      · rfl
      refine ⟨bool_w ?_, rfl⟩
      rw [knownC]; repeat' split
      all_goals first | rfl | omega | (simp_all; done) | (simp_all; omega) | (rw [Bool.eq_iff_iff]; simp_all; done) | (rw [Bool.eq_iff_iff]; simp_all; omega)
    try simp only [↓str_beq_t, ↓str_beq_f, decide_eq_true_eq, decide_eq_false_iff_not, Bool.not_eq_true', Bool.not_eq_false', Int.not_lt, Int.not_le, beq_iff_eq, beq_eq_false_iff_ne, bne_iff_ne, bne_eq_false_iff_eq, ne_eq] at g20
    first | refine awps_g0 rfl rfl rfl (by decide) rfl (by decide) (stp_fieldAddr rfl fo_api_Term_0 rfl) ?_ | refine awps_g0 rfl rfl rfl (by decide) rfl (by decide) (stp_fieldAddr_elp rfl fo_api_Term_0 rfl) ?_
    first | refine awps_g0 rfl rfl rfl (by decide) rfl (by decide) (stp_load rfl tf_int rfl rfl rfl rfl rfl) ?_ | refine awps_g0 rfl rfl rfl (by decide) rfl (by decide) (stp_load_elp1 rfl tf_int rfl) ?_ | refine awps_g0 rfl rfl rfl (by decide) rfl (by decide) (stp_load_elpn rfl tf_int rfl rfl rfl) ?_
    refine awps_g0 rfl rfl rfl (by decide) rfl (by decide) (stp_binI rfl rfl rfl rfl) ?_
    refine awps_stp0 rfl rfl (by decide) (stp_pick rfl rfl rfl) ?_
    refine awps_nil ?_
    refine thenQ_nil ?_
    refine awp_cond rfl (fun c1 => ?_) (fun c1 => ?_)
    · try simp only [↓str_beq_t, ↓str_beq_f, decide_eq_true_eq, decide_eq_false_iff_not, Bool.not_eq_true', Bool.not_eq_false', Int.not_lt, Int.not_le, beq_iff_eq, beq_eq_false_iff_ne, bne_iff_ne, bne_eq_false_iff_eq, ne_eq] at c1
      refine awp_seq ?_
      refine awp_region ?_
      refine awps_stp0 rfl rfl (by decide) (stp_move (.inr rfl) rfl) ?_
      refine awps_nil ?_
      refine thenQ_nil ?_
      refine awp_ret ?_
      refine thenQ_ret (thenQ_ret (?_))
      -- leaf g13Tg20F1T
      refine ret0 (noL hL) (.inl rfl) (resAs_tmp rfl (resAs_nil)) ?_ ?_
      · rfl
      refine ⟨bool_w ?_, rfl⟩
      rw [knownC]; repeat' split
      all_goals first | rfl | omega | (simp_all; done) | (simp_all; omega) | (rw [Bool.eq_iff_iff]; simp_all; done) | (rw [Bool.eq_iff_iff]; simp_all; omega)
    try simp only [↓str_beq_t, ↓str_beq_f, decide_eq_true_eq, decide_eq_false_iff_not, Bool.not_eq_true', Bool.not_eq_false', Int.not_lt, Int.not_le, beq_iff_eq, beq_eq_false_iff_ne, bne_iff_ne, bne_eq_false_iff_eq, ne_eq] at c1
    refine awp_skip ?_
    refine thenQ_nil ?_
    refine awp_seq ?_
    refine awp_region ?_
    refine awps_stp0 rfl rfl (by decide) (stp_move (.inl rfl) rfl) ?_
    refine awps_stp0 rfl rfl (by decide) (stp_binI rfl rfl rfl rfl) ?_
    refine awps_stp0 rfl rfl (by decide) (stp_move (.inl rfl) rfl) ?_
    refine awps_split 27 rfl (fun g27 => ?_) (fun g27 => ?_)
    · try simp only [↓str_beq_t, ↓str_beq_f, decide_eq_true_eq, decide_eq_false_iff_not, Bool.not_eq_true', Bool.not_eq_false', Int.not_lt, Int.not_le, beq_iff_eq, beq_eq_false_iff_ne, bne_iff_ne, bne_eq_false_iff_eq, ne_eq] at g27
      refine awps_gs rfl rfl rfl rfl (by decide) rfl (by decide) ?_
      refine awps_gs rfl rfl rfl rfl (by decide) rfl (by decide) ?_
      refine awps_gs rfl rfl rfl rfl (by decide) rfl (by decide) ?_
      refine awps_gu rfl rfl rfl (by decide) rfl (by decide) ?_
      refine awps_gu rfl rfl rfl (by decide) rfl (by decide) ?_
      refine awps_gs rfl rfl rfl rfl (by decide) rfl (by decide) ?_
      refine awps_stp0 rfl rfl (by decide) (stp_pick rfl rfl rfl) ?_
      refine awps_stp0 rfl rfl (by decide) (stp_move (.inr rfl) rfl) ?_
      refine awps_nil ?_
      refine thenQ_nil ?_
      refine awp_ret ?_
      refine thenQ_ret (?_)
      -- leaf g13Tg20F1Fg27T
      refine ret0 (noL hL) (.inl rfl) (resAs_tmp rfl (resAs_nil)) ?_ ?_
      · rfl
      refine ⟨bool_w ?_, rfl⟩
      rw [knownC]; repeat' split
      all_goals first | rfl | omega | (simp_all; done) | (simp_all; omega) | (rw [Bool.eq_iff_iff]; simp_all; done) | (rw [Bool.eq_iff_iff]; simp_all; omega)
    try simp only [↓str_beq_t, ↓str_beq_f, decide_eq_true_eq, decide_eq_false_iff_not, Bool.not_eq_true', Bool.not_eq_false', Int.not_lt, Int.not_le, beq_iff_eq, beq_eq_false_iff_ne, bne_iff_ne, bne_eq_false_iff_eq, ne_eq] at g27
    refine awps_g0 rfl rfl rfl (by decide) rfl (by decide) (stp_move (.inl rfl) rfl) ?_
    refine awps_g0 rfl rfl rfl (by decide) rfl (by decide) (stp_binI rfl rfl rfl rfl) ?_
    refine awps_g0 rfl rfl rfl (by decide) rfl (by decide) (stp_move (.inl rfl) rfl) ?_
    refine awps_split 30 rfl (fun g30 => ?_) (fun g30 => ?_)
    · try simp only [↓str_beq_t, ↓str_beq_f, decide_eq_true_eq, decide_eq_false_iff_not, Bool.not_eq_true', Bool.not_eq_false', Int.not_lt, Int.not_le, beq_iff_eq, beq_eq_false_iff_ne, bne_iff_ne, bne_eq_false_iff_eq, ne_eq] at g30
      refine awps_g0 rfl rfl rfl (by decide) rfl (by decide) (stp_move (.inl rfl) rfl) ?_
      refine awps_g0 rfl rfl rfl (by decide) rfl (by decide) (stp_binI rfl rfl rfl rfl) ?_
      refine awps_g0 rfl rfl rfl (by decide) rfl (by decide) (stp_pick rfl rfl rfl) ?_
      refine awps_stp0 rfl rfl (by decide) (stp_pick rfl rfl rfl) ?_
      refine awps_stp0 rfl rfl (by decide) (stp_move (.inr rfl) rfl) ?_
      refine awps_nil ?_
      refine thenQ_nil ?_
      refine awp_ret ?_
      refine thenQ_ret (?_)
      -- leaf g13Tg20F1Fg27Fg30T
      refine ret0 (noL hL) (.inl rfl) (resAs_tmp rfl (resAs_nil)) ?_ ?_
      · rfl
      refine ⟨bool_w ?_, rfl⟩
      rw [knownC]; repeat' split
      all_goals first | rfl | omega | (simp_all; done) | (simp_all; omega) | (rw [Bool.eq_iff_iff]; simp_all; done) | (rw [Bool.eq_iff_iff]; simp_all; omega)
    try simp only [↓str_beq_t, ↓str_beq_f, decide_eq_true_eq, decide_eq_false_iff_not, Bool.not_eq_true', Bool.not_eq_false', Int.not_lt, Int.not_le, beq_iff_eq, beq_eq_false_iff_ne, bne_iff_ne, bne_eq_false_iff_eq, ne_eq] at g30
    refine awps_gs rfl rfl rfl rfl (by decide) rfl (by decide) ?_
    refine awps_gs rfl rfl rfl rfl (by decide) rfl (by decide) ?_
    refine awps_g0 rfl rfl rfl (by decide) rfl (by decide) (stp_pick rfl rfl rfl) ?_
    refine awps_stp0 rfl rfl (by decide) (stp_pick rfl rfl rfl) ?_
    refine awps_stp0 rfl rfl (by decide) (stp_move (.inr rfl) rfl) ?_
    refine awps_nil ?_
    refine thenQ_nil ?_
    refine awp_ret ?_
    refine thenQ_ret (?_)
    -- leaf g13Tg20F1Fg27Fg30F
    refine ret0 (noL hL) (.inl rfl) (resAs_tmp rfl (resAs_nil)) ?_ ?_
    · rfl
    refine ⟨bool_w ?_, rfl⟩
    rw [knownC]; repeat' split
    all_goals first | rfl | omega | (simp_all; done) | (simp_all; omega) | (rw [Bool.eq_iff_iff]; simp_all; done) | (rw [Bool.eq_iff_iff]; simp_all; omega)
  try simp only [↓str_beq_t, ↓str_beq_f, decide_eq_true_eq, decide_eq_false_iff_not, Bool.not_eq_true', Bool.not_eq_false', Int.not_lt, Int.not_le, beq_iff_eq, beq_eq_false_iff_ne, bne_iff_ne, bne_eq_false_iff_eq, ne_eq] at g13
  refine awps_g0 rfl rfl rfl (by decide) rfl (by decide) (stp_move (.inl rfl) rfl) ?_
  refine awps_g0 rfl rfl rfl (by decide) rfl (by decide) (stp_binI rfl rfl rfl rfl) ?_
  refine awps_stp0 rfl rfl (by decide) (stp_pick rfl rfl rfl) ?_
  refine awps_nil ?_
  refine thenQ_nil ?_
  refine awp_cond rfl (fun c0 => ?_) (fun c0 => ?_)
  · try simp only [↓str_beq_t, ↓str_beq_f, decide_eq_true_eq, decide_eq_false_iff_not, Bool.not_eq_true', Bool.not_eq_false', Int.not_lt, Int.not_le, beq_iff_eq, beq_eq_false_iff_ne, bne_iff_ne, bne_eq_false_iff_eq, ne_eq] at c0
    refine awp_seq ?_
    refine awp_seq ?_
    refine awp_region ?_
    first | refine awps_stp0 rfl rfl (by decide) (stp_fieldAddr rfl fo_api_Term_0 rfl) ?_ | refine awps_stp0 rfl rfl (by decide) (stp_fieldAddr_elp rfl fo_api_Term_0 rfl) ?_
    first | refine awps_stp0 rfl rfl (by decide) (stp_load rfl tf_int rfl rfl rfl rfl rfl) ?_ | refine awps_stp0 rfl rfl (by decide) (stp_load_elp1 rfl tf_int rfl) ?_ | refine awps_stp0 rfl rfl (by decide) (stp_load_elpn rfl tf_int rfl rfl rfl) ?_
    refine awps_stp0 rfl rfl (by decide) (stp_binI rfl rfl rfl rfl) ?_
    refine awps_stp0 rfl rfl (by decide) (stp_move (.inl rfl) rfl) ?_
    refine awps_split 20 rfl (fun g20 => ?_) (fun g20 => ?_)
    · try simp only [↓str_beq_t, ↓str_beq_f, decide_eq_true_eq, decide_eq_false_iff_not, Bool.not_eq_true', Bool.not_eq_false', Int.not_lt, Int.not_le, beq_iff_eq, beq_eq_false_iff_ne, bne_iff_ne, bne_eq_false_iff_eq, ne_eq] at g20
      refine awps_gs rfl rfl rfl rfl (by decide) rfl (by decide) ?_
      refine awps_gs rfl rfl rfl rfl (by decide) rfl (by decide) ?_
      refine awps_gs rfl rfl rfl rfl (by decide) rfl (by decide) ?_
      refine awps_stp0 rfl rfl (by decide) (stp_pick rfl rfl rfl) ?_
      refine awps_nil ?_
      refine thenQ_nil ?_
      refine awp_condT rfl ?_
      refine awp_seq ?_
      refine awp_region ?_
      refine awps_stp0 rfl rfl (by decide) (stp_move (.inr rfl) rfl) ?_
      refine awps_nil ?_
      refine thenQ_nil ?_
      refine awp_ret ?_
      refine thenQ_ret (thenQ_ret (?_))
      -- leaf g13F0Tg20T
      refine ret0 (noL hL) (.inl rfl) (resAs_tmp rfl (resAs_nil)) ?_ ?_
      · rfl
      refine ⟨bool_w ?_, rfl⟩
      rw [knownC]; repeat' split
      all_goals first | rfl | omega | (simp_all; done) | (simp_all; omega) | (rw [Bool.eq_iff_iff]; simp_all; done) | (rw [Bool.eq_iff_iff]; simp_all; omega)
    try simp only [↓str_beq_t, ↓str_beq_f, decide_eq_true_eq, decide_eq_false_iff_not, Bool.not_eq_true', Bool.not_eq_false', Int.not_lt, Int.not_le, beq_iff_eq, beq_eq_false_iff_ne, bne_iff_ne, bne_eq_false_iff_eq, ne_eq] at g20
    first | refine awps_g0 rfl rfl rfl (by decide) rfl (by decide) (stp_fieldAddr rfl fo_api_Term_0 rfl) ?_ | refine awps_g0 rfl rfl rfl (by decide) rfl (by decide) (stp_fieldAddr_elp rfl fo_api_Term_0 rfl) ?_
    first | refine awps_g0 rfl rfl rfl (by decide) rfl (by decide) (stp_load rfl tf_int rfl rfl rfl rfl rfl) ?_ | refine awps_g0 rfl rfl rfl (by decide) rfl (by decide) (stp_load_elp1 rfl tf_int rfl) ?_ | refine awps_g0 rfl rfl rfl (by decide) rfl (by decide) (stp_load_elpn rfl tf_int rfl rfl rfl) ?_
    refine awps_g0 rfl rfl rfl (by decide) rfl (by decide) (stp_binI rfl rfl rfl rfl) ?_
    refine awps_stp0 rfl rfl (by decide) (stp_pick rfl rfl rfl) ?_
    refine awps_nil ?_
    refine thenQ_nil ?_
    refine awp_cond rfl (fun c1 => ?_) (fun c1 => ?_)
    · try simp only [↓str_beq_t, ↓str_beq_f, decide_eq_true_eq, decide_eq_false_iff_not, Bool.not_eq_true', Bool.not_eq_false', Int.not_lt, Int.not_le, beq_iff_eq, beq_eq_false_iff_ne, bne_iff_ne, bne_eq_false_iff_eq, ne_eq] at c1
      refine awp_seq ?_
      refine awp_region ?_
      refine awps_stp0 rfl rfl (by decide) (stp_move (.inr rfl) rfl) ?_
      refine awps_nil ?_
      refine thenQ_nil ?_
      refine awp_ret ?_
      refine thenQ_ret (thenQ_ret (?_))
      -- leaf g13F0Tg20F1T
      refine ret0 (noL hL) (.inl rfl) (resAs_tmp rfl (resAs_nil)) ?_ ?_
      · rfl
      refine ⟨bool_w ?_, rfl⟩
      rw [knownC]; repeat' split
      all_goals first | rfl | omega | (simp_all; done) | (simp_all; omega) | (rw [Bool.eq_iff_iff]; simp_all; done) | (rw [Bool.eq_iff_iff]; simp_all; omega)
    try simp only [↓str_beq_t, ↓str_beq_f, decide_eq_true_eq, decide_eq_false_iff_not, Bool.not_eq_true', Bool.not_eq_false', Int.not_lt, Int.not_le, beq_iff_eq, beq_eq_false_iff_ne, bne_iff_ne, bne_eq_false_iff_eq, ne_eq] at c1
    refine awp_skip ?_
    refine thenQ_nil ?_
    refine awp_seq ?_
    refine awp_region ?_
    refine awps_stp0 rfl rfl (by decide) (stp_move (.inl rfl) rfl) ?_
    refine awps_stp0 rfl rfl (by decide) (stp_binI rfl rfl rfl rfl) ?_
    refine awps_stp0 rfl rfl (by decide) (stp_move (.inl rfl) rfl) ?_
    refine awps_split 27 rfl (fun g27 => ?_) (fun g27 => ?_)
    · try simp only [↓str_beq_t, ↓str_beq_f, decide_eq_true_eq, decide_eq_false_iff_not, Bool.not_eq_true', Bool.not_eq_false', Int.not_lt, Int.not_le, beq_iff_eq, beq_eq_false_iff_ne, bne_iff_ne, bne_eq_false_iff_eq, ne_eq] at g27
      refine awps_gs rfl rfl rfl rfl (by decide) rfl (by decide) ?_
      refine awps_gs rfl rfl rfl rfl (by decide) rfl (by decide) ?_
      refine awps_gs rfl rfl rfl rfl (by decide) rfl (by decide) ?_
      refine awps_gu rfl rfl rfl (by decide) rfl (by decide) ?_
      refine awps_gu rfl rfl rfl (by decide) rfl (by decide) ?_
      refine awps_gs rfl rfl rfl rfl (by decide) rfl (by decide) ?_
      refine awps_stp0 rfl rfl (by decide) (stp_pick rfl rfl rfl) ?_
      refine awps_stp0 rfl rfl (by decide) (stp_move (.inr rfl) rfl) ?_
      refine awps_nil ?_
      refine thenQ_nil ?_
      refine awp_ret ?_
      refine thenQ_ret (?_)
      -- leaf g13F0Tg20F1Fg27T
      refine ret0 (noL hL) (.inl rfl) (resAs_tmp rfl (resAs_nil)) ?_ ?_
      · rfl
      refine ⟨bool_w ?_, rfl⟩
      rw [knownC]; repeat' split
      all_goals first | rfl | omega | (simp_all; done) | (simp_all; omega) | (rw [Bool.eq_iff_iff]; simp_all; done) | (rw [Bool.eq_iff_iff]; simp_all; omega)
    try simp only [↓str_beq_t, ↓str_beq_f, decide_eq_true_eq, decide_eq_false_iff_not, Bool.not_eq_true', Bool.not_eq_false', Int.not_lt, Int.not_le, beq_iff_eq, beq_eq_false_iff_ne, bne_iff_ne, bne_eq_false_iff_eq, ne_eq] at g27
    refine awps_g0 rfl rfl rfl (by decide) rfl (by decide) (stp_move (.inl rfl) rfl) ?_
    refine awps_g0 rfl rfl rfl (by decide) rfl (by decide) (stp_binI rfl rfl rfl rfl) ?_
    refine awps_g0 rfl rfl rfl (by decide) rfl (by decide) (stp_move (.inl rfl) rfl) ?_
    refine awps_split 30 rfl (fun g30 => ?_) (fun g30 => ?_)
    · try simp only [↓str_beq_t, ↓str_beq_f, decide_eq_true_eq, decide_eq_false_iff_not, Bool.not_eq_true', Bool.not_eq_false', Int.not_lt, Int.not_le, beq_iff_eq, beq_eq_false_iff_ne, bne_iff_ne, bne_eq_false_iff_eq, ne_eq] at g30
      refine awps_g0 rfl rfl rfl (by decide) rfl (by decide) (stp_move (.inl rfl) rfl) ?_
      refine awps_g0 rfl rfl rfl (by decide) rfl (by decide) (stp_binI rfl rfl rfl rfl) ?_
      refine awps_g0 rfl rfl rfl (by decide) rfl (by decide) (stp_pick rfl rfl rfl) ?_
      refine awps_stp0 rfl rfl (by decide) (stp_pick rfl rfl rfl) ?_
      refine awps_stp0 rfl rfl (by decide) (stp_move (.inr rfl) rfl) ?_
      refine awps_nil ?_
      refine thenQ_nil ?_
      refine awp_ret ?_
      refine thenQ_ret (?_)
      -- leaf g13F0Tg20F1Fg27Fg30T
      refine ret0 (noL hL) (.inl rfl) (resAs_tmp rfl (resAs_nil)) ?_ ?_
      · rfl
      refine ⟨bool_w ?_, rfl⟩
      rw [knownC]; repeat' split
      all_goals first | rfl | omega | (simp_all; done) | (simp_all; omega) | (rw [Bool.eq_iff_iff]; simp_all; done) | (rw [Bool.eq_iff_iff]; simp_all; omega)
    try simp only [↓str_beq_t, ↓str_beq_f, decide_eq_true_eq, decide_eq_false_iff_not, Bool.not_eq_true', Bool.not_eq_false', Int.not_lt, Int.not_le, beq_iff_eq, beq_eq_false_iff_ne, bne_iff_ne, bne_eq_false_iff_eq, ne_eq] at g30
    refine awps_gs rfl rfl rfl rfl (by decide) rfl (by decide) ?_
    refine awps_gs rfl rfl rfl rfl (by decide) rfl (by decide) ?_
    refine awps_g0 rfl rfl rfl (by decide) rfl (by decide) (stp_pick rfl rfl rfl) ?_
    refine awps_stp0 rfl rfl (by decide) (stp_pick rfl rfl rfl) ?_
    refine awps_stp0 rfl rfl (by decide) (stp_move (.inr rfl) rfl) ?_
    refine awps_nil ?_
    refine thenQ_nil ?_
    refine awp_ret ?_
    refine thenQ_ret (?_)
    -- leaf g13F0Tg20F1Fg27Fg30F
    refine ret0 (noL hL) (.inl rfl) (resAs_tmp rfl (resAs_nil)) ?_ ?_
    · rfl
    refine ⟨bool_w ?_, rfl⟩
    rw [knownC]; repeat' split
    all_goals first | rfl | omega | (simp_all; done) | (simp_all; omega) | (rw [Bool.eq_iff_iff]; simp_all; done) | (rw [Bool.eq_iff_iff]; simp_all; omega)
  try simp only [↓str_beq_t, ↓str_beq_f, decide_eq_true_eq, decide_eq_false_iff_not, Bool.not_eq_true', Bool.not_eq_false', Int.not_lt, Int.not_le, beq_iff_eq, beq_eq_false_iff_ne, bne_iff_ne, bne_eq_false_iff_eq, ne_eq] at c0
  refine awp_skip ?_
  refine thenQ_nil ?_
  refine awp_seq ?_
  refine awp_region ?_
  refine awps_stp0 rfl rfl (by decide) (stp_move (.inl rfl) rfl) ?_
  refine awps_stp0 rfl rfl (by decide) (stp_binI rfl rfl rfl rfl) ?_
  refine awps_stp0 rfl rfl (by decide) (stp_move (.inl rfl) rfl) ?_
  refine awps_stp0 rfl rfl (by decide) (stp_binI rfl rfl rfl rfl) ?_
  refine awps_stp0 rfl rfl (by decide) (stp_eqB rfl ul_bool rfl rfl) ?_
  refine awps_stp0 rfl rfl (by decide) (stp_move (.inr rfl) rfl) ?_
  refine awps_nil ?_
  refine thenQ_nil ?_
  refine awp_ret ?_
  -- leaf g13F0F
  refine ret0 (noL hL) (.inl rfl) (resAs_tmp rfl (resAs_nil)) ?_ ?_
  · rfl
  refine ⟨bool_w ?_, rfl⟩
  rw [knownC]; repeat' split
  all_goals first | rfl | omega | (simp_all; done) | (simp_all; omega) | (rw [Bool.eq_iff_iff]; simp_all; done) | (rw [Bool.eq_iff_iff]; simp_all; omega)
def guardE (kind : Int) (a b : Tm) : Int :=
  if kind < 1 ∨ 4 < kind ∨ mayT a = false ∨ mayT b = false ∨ groundB a = false ∨ groundB b = false then 1
  else if kind ≤ 2 ∧ (a.kind ≠ 2 ∨ b.kind ≠ 2) then 3 else 0
def guardC (kind : Int) (a b : Tm) : Bool := guardE kind a b == 0 && knownC kind a b
theorem gfin {kind e : Int} {a b : Tm} {x : Bool} (h : guardE kind a b = e) (hx : x = (e == 0 && knownC kind a b)) : resV [bv x, iv e] = AV.tup [bv (guardC kind a b), iv (guardE kind a b)] := by subst h; subst hx; rfl
theorem guardCompare_ok (kind : Int) (a b : Tm) (ha : a.wf) (hb : b.wf) : PF 11 [iv kind, tmA false a, tmA false b] (.tup [bv (guardC kind a b), iv (guardE kind a b)]) := by
  refine AC_intro Try.func11 rfl Try.ntmps11 (Nat.le_of_ble_eq_true rfl) fun c hL => ?_
  refine awp_seq ?_
  refine awp_region ?_
  refine awps_stp1 rfl rfl (by decide) (stp_box 4 rfl rfl rfl) rfl ?_
  refine awps_stp1 rfl rfl (by decide) (stp_box 5 rfl rfl rfl) rfl ?_
  refine awps_stp0 rfl rfl (by decide) (stp_move (.inr rfl) rfl) ?_
  refine awps_stp0 rfl rfl (by decide) (stp_move (.inr rfl) rfl) ?_
  refine awps_nil ?_
  refine thenQ_nil ?_
  refine awp_seq ?_
  refine awp_seq ?_
  refine awp_region ?_
  refine awps_stp0 rfl rfl (by decide) (stp_move (.inl rfl) rfl) ?_
  refine awps_stp0 rfl rfl (by decide) (stp_binI rfl rfl rfl rfl) ?_
  refine awps_stp0 rfl rfl (by decide) (stp_move (.inl rfl) rfl) ?_
  refine awps_split 10 rfl (fun g10 => ?_) (fun g10 => ?_)
  · try simp only [↓str_beq_t, ↓str_beq_f, decide_eq_true_eq, decide_eq_false_iff_not, Bool.not_eq_true', Bool.not_eq_false', Int.not_lt, Int.not_le, beq_iff_eq, beq_eq_false_iff_ne, bne_iff_ne, bne_eq_false_iff_eq, ne_eq] at g10
    refine awps_gs rfl rfl rfl rfl (by decide) rfl (by decide) ?_
    refine awps_gs rfl rfl rfl rfl (by decide) rfl (by decide) ?_
    refine awps_stp0 rfl rfl (by decide) (stp_pick rfl rfl rfl) ?_
    refine awps_stp0 rfl rfl (by decide) (stp_move (.inl rfl) rfl) ?_
    refine awps_gs rfl rfl rfl rfl (by decide) rfl (by decide) ?_
    refine awps_gs rfl rfl rfl rfl (by decide) rfl (by decide) ?_
    refine awps_gs rfl rfl rfl rfl (by decide) rfl (by decide) ?_
    refine awps_stp0 rfl rfl (by decide) (stp_pick rfl rfl rfl) ?_
    refine awps_stp0 rfl rfl (by decide) (stp_move (.inl rfl) rfl) ?_
    refine awps_gs rfl rfl rfl rfl (by decide) rfl (by decide) ?_
    refine awps_gs rfl rfl rfl rfl (by decide) rfl (by decide) ?_
    refine awps_gs rfl rfl rfl rfl (by decide) rfl (by decide) ?_
    refine awps_stp0 rfl rfl (by decide) (stp_pick rfl rfl rfl) ?_
    refine awps_stp0 rfl rfl (by decide) (stp_move (.inl rfl) rfl) ?_
    refine awps_gs rfl rfl rfl rfl (by decide) rfl (by decide) ?_
    refine awps_gs rfl rfl rfl rfl (by decide) rfl (by decide) ?_
    refine awps_gs rfl rfl rfl rfl (by decide) rfl (by decide) ?_
    refine awps_stp0 rfl rfl (by decide) (stp_pick rfl rfl rfl) ?_
    refine awps_stp0 rfl rfl (by decide) (stp_move (.inl rfl) rfl) ?_
    refine awps_gs rfl rfl rfl rfl (by decide) rfl (by decide) ?_
    refine awps_gs rfl rfl rfl rfl (by decide) rfl (by decide) ?_
    refine awps_gs rfl rfl rfl rfl (by decide) rfl (by decide) ?_
    refine awps_stp0 rfl rfl (by decide) (stp_pick rfl rfl rfl) ?_
    refine awps_nil ?_
    refine thenQ_nil ?_
    refine awp_condT rfl ?_
    refine awp_seq ?_
    refine awp_region ?_
    refine awps_stp0 rfl rfl (by decide) (stp_move (.inr rfl) rfl) ?_
    refine awps_stp0 rfl rfl (by decide) (stp_move (.inr rfl) rfl) ?_
    refine awps_nil ?_
    refine thenQ_nil ?_
    refine awp_ret ?_
    refine thenQ_ret (?_)
    -- leaf g10T
    refine ret0 (noL hL) (.inl rfl) (resAs_tmp rfl (resAs_tmp rfl (resAs_nil))) ?_ ?_
    · rfl
    refine ⟨gfin ?_ rfl, rfl⟩
    rw [guardE]; repeat' split
    all_goals first | rfl | omega | (simp_all; done) | (simp_all; omega)
  try simp only [↓str_beq_t, ↓str_beq_f, decide_eq_true_eq, decide_eq_false_iff_not, Bool.not_eq_true', Bool.not_eq_false', Int.not_lt, Int.not_le, beq_iff_eq, beq_eq_false_iff_ne, bne_iff_ne, bne_eq_false_iff_eq, ne_eq] at g10
  refine awps_g0 rfl rfl rfl (by decide) rfl (by decide) (stp_move (.inl rfl) rfl) ?_
  refine awps_g0 rfl rfl rfl (by decide) rfl (by decide) (stp_binI rfl rfl rfl rfl) ?_
  refine awps_stp0 rfl rfl (by decide) (stp_pick rfl rfl rfl) ?_
  refine awps_stp0 rfl rfl (by decide) (stp_move (.inl rfl) rfl) ?_
  refine awps_split 14 rfl (fun g14 => ?_) (fun g14 => ?_)
  · try simp only [↓str_beq_t, ↓str_beq_f, decide_eq_true_eq, decide_eq_false_iff_not, Bool.not_eq_true', Bool.not_eq_false', Int.not_lt, Int.not_le, beq_iff_eq, beq_eq_false_iff_ne, bne_iff_ne, bne_eq_false_iff_eq, ne_eq] at g14
    refine awps_gs rfl rfl rfl rfl (by decide) rfl (by decide) ?_
    refine awps_gs rfl rfl rfl rfl (by decide) rfl (by decide) ?_
    refine awps_gs rfl rfl rfl rfl (by decide) rfl (by decide) ?_
    refine awps_stp0 rfl rfl (by decide) (stp_pick rfl rfl rfl) ?_
    refine awps_stp0 rfl rfl (by decide) (stp_move (.inl rfl) rfl) ?_
    refine awps_gs rfl rfl rfl rfl (by decide) rfl (by decide) ?_
    refine awps_gs rfl rfl rfl rfl (by decide) rfl (by decide) ?_
    refine awps_gs rfl rfl rfl rfl (by decide) rfl (by decide) ?_
    refine awps_stp0 rfl rfl (by decide) (stp_pick rfl rfl rfl) ?_
    refine awps_stp0 rfl rfl (by decide) (stp_move (.inl rfl) rfl) ?_
    refine awps_gs rfl rfl rfl rfl (by decide) rfl (by decide) ?_
    refine awps_gs rfl rfl rfl rfl (by decide) rfl (by decide) ?_
    refine awps_gs rfl rfl rfl rfl (by decide) rfl (by decide) ?_
    refine awps_stp0 rfl rfl (by decide) (stp_pick rfl rfl rfl) ?_
    refine awps_stp0 rfl rfl (by decide) (stp_move (.inl rfl) rfl) ?_
    refine awps_gs rfl rfl rfl rfl (by decide) rfl (by decide) ?_
    refine awps_gs rfl rfl rfl rfl (by decide) rfl (by decide) ?_
    refine awps_gs rfl rfl rfl rfl (by decide) rfl (by decide) ?_
    refine awps_stp0 rfl rfl (by decide) (stp_pick rfl rfl rfl) ?_
    refine awps_nil ?_
    refine thenQ_nil ?_
    refine awp_condT rfl ?_
    refine awp_seq ?_
    refine awp_region ?_
    refine awps_stp0 rfl rfl (by decide) (stp_move (.inr rfl) rfl) ?_
    refine awps_stp0 rfl rfl (by decide) (stp_move (.inr rfl) rfl) ?_
    refine awps_nil ?_
    refine thenQ_nil ?_
    refine awp_ret ?_
    refine thenQ_ret (?_)
    -- leaf g10Fg14T
    refine ret0 (noL hL) (.inl rfl) (resAs_tmp rfl (resAs_tmp rfl (resAs_nil))) ?_ ?_
    · rfl
    refine ⟨gfin ?_ rfl, rfl⟩
    rw [guardE]; repeat' split
    all_goals first | rfl | omega | (simp_all; done) | (simp_all; omega)
  try simp only [↓str_beq_t, ↓str_beq_f, decide_eq_true_eq, decide_eq_false_iff_not, Bool.not_eq_true', Bool.not_eq_false', Int.not_lt, Int.not_le, beq_iff_eq, beq_eq_false_iff_ne, bne_iff_ne, bne_eq_false_iff_eq, ne_eq] at g14
  first | refine awps_g0 rfl rfl rfl (by decide) rfl (by decide) (stp_load_all rfl tf_api_Term rfl rfl rfl rfl) ?_ | refine awps_g0 rfl rfl rfl (by decide) rfl (by decide) (stp_load rfl tf_api_Term rfl rfl rfl rfl rfl) ?_ | refine awps_g0 rfl rfl rfl (by decide) rfl (by decide) (stp_load_elpa rfl tf_api_Term rfl rfl) ?_ | refine awps_g0 rfl rfl rfl (by decide) rfl (by decide) (stp_load_elpn rfl tf_api_Term rfl rfl rfl) ?_
  refine awps_g0 rfl rfl rfl (by decide) rfl (by decide) (stp_call (avs := [_]) true rfl en_term_May rfl rfl (May_ok _ (by assumption)) (fun _ => rfl) rfl) ?_
  refine awps_g0 rfl rfl rfl (by decide) rfl (by decide) (stp_not rfl rfl) ?_
  refine awps_stp0 rfl rfl (by decide) (stp_pick rfl rfl rfl) ?_
  refine awps_stp0 rfl rfl (by decide) (stp_move (.inl rfl) rfl) ?_
  refine awps_split 19 rfl (fun g19 => ?_) (fun g19 => ?_)
  · try simp only [↓str_beq_t, ↓str_beq_f, decide_eq_true_eq, decide_eq_false_iff_not, Bool.not_eq_true', Bool.not_eq_false', Int.not_lt, Int.not_le, beq_iff_eq, beq_eq_false_iff_ne, bne_iff_ne, bne_eq_false_iff_eq, ne_eq] at g19
    refine awps_gs rfl rfl rfl rfl (by decide) rfl (by decide) ?_
    refine awps_gs rfl rfl rfl rfl (by decide) rfl (by decide) ?_
    refine awps_gs rfl rfl rfl rfl (by decide) rfl (by decide) ?_
    refine awps_stp0 rfl rfl (by decide) (stp_pick rfl rfl rfl) ?_
    refine awps_stp0 rfl rfl (by decide) (stp_move (.inl rfl) rfl) ?_
    refine awps_gs rfl rfl rfl rfl (by decide) rfl (by decide) ?_
    refine awps_gs rfl rfl rfl rfl (by decide) rfl (by decide) ?_
    refine awps_gs rfl rfl rfl rfl (by decide) rfl (by decide) ?_
    refine awps_stp0 rfl rfl (by decide) (stp_pick rfl rfl rfl) ?_
    refine awps_stp0 rfl rfl (by decide) (stp_move (.inl rfl) rfl) ?_
    refine awps_gs rfl rfl rfl rfl (by decide) rfl (by decide) ?_
    refine awps_gs rfl rfl rfl rfl (by decide) rfl (by decide) ?_
    refine awps_gs rfl rfl rfl rfl (by decide) rfl (by decide) ?_
    refine awps_stp0 rfl rfl (by decide) (stp_pick rfl rfl rfl) ?_
    refine awps_nil ?_
    refine thenQ_nil ?_
    refine awp_condT rfl ?_
    refine awp_seq ?_
    refine awp_region ?_
    refine awps_stp0 rfl rfl (by decide) (stp_move (.inr rfl) rfl) ?_
    refine awps_stp0 rfl rfl (by decide) (stp_move (.inr rfl) rfl) ?_
    refine awps_nil ?_
    refine thenQ_nil ?_
    refine awp_ret ?_
    refine thenQ_ret (?_)
    -- leaf g10Fg14Fg19T
    refine ret0 (noL hL) (.inl rfl) (resAs_tmp rfl (resAs_tmp rfl (resAs_nil))) ?_ ?_
    · rfl
    refine ⟨gfin ?_ rfl, rfl⟩
    rw [guardE]; repeat' split
    all_goals first | rfl | omega | (simp_all; done) | (simp_all; omega)
  try simp only [↓str_beq_t, ↓str_beq_f, decide_eq_true_eq, decide_eq_false_iff_not, Bool.not_eq_true', Bool.not_eq_false', Int.not_lt, Int.not_le, beq_iff_eq, beq_eq_false_iff_ne, bne_iff_ne, bne_eq_false_iff_eq, ne_eq] at g19
  first | refine awps_g0 rfl rfl rfl (by decide) rfl (by decide) (stp_load_all rfl tf_api_Term rfl rfl rfl rfl) ?_ | refine awps_g0 rfl rfl rfl (by decide) rfl (by decide) (stp_load rfl tf_api_Term rfl rfl rfl rfl rfl) ?_ | refine awps_g0 rfl rfl rfl (by decide) rfl (by decide) (stp_load_elpa rfl tf_api_Term rfl rfl) ?_ | refine awps_g0 rfl rfl rfl (by decide) rfl (by decide) (stp_load_elpn rfl tf_api_Term rfl rfl rfl) ?_
  refine awps_g0 rfl rfl rfl (by decide) rfl (by decide) (stp_call (avs := [_]) true rfl en_term_May rfl rfl (May_ok _ (by assumption)) (fun _ => rfl) rfl) ?_
  refine awps_g0 rfl rfl rfl (by decide) rfl (by decide) (stp_not rfl rfl) ?_
  refine awps_stp0 rfl rfl (by decide) (stp_pick rfl rfl rfl) ?_
  refine awps_stp0 rfl rfl (by decide) (stp_move (.inl rfl) rfl) ?_
  refine awps_split 24 rfl (fun g24 => ?_) (fun g24 => ?_)
  · try simp only [↓str_beq_t, ↓str_beq_f, decide_eq_true_eq, decide_eq_false_iff_not, Bool.not_eq_true', Bool.not_eq_false', Int.not_lt, Int.not_le, beq_iff_eq, beq_eq_false_iff_ne, bne_iff_ne, bne_eq_false_iff_eq, ne_eq] at g24
    refine awps_gs rfl rfl rfl rfl (by decide) rfl (by decide) ?_
    refine awps_gs rfl rfl rfl rfl (by decide) rfl (by decide) ?_
    refine awps_gs rfl rfl rfl rfl (by decide) rfl (by decide) ?_
    refine awps_stp0 rfl rfl (by decide) (stp_pick rfl rfl rfl) ?_
    refine awps_stp0 rfl rfl (by decide) (stp_move (.inl rfl) rfl) ?_
    refine awps_gs rfl rfl rfl rfl (by decide) rfl (by decide) ?_
    refine awps_gs rfl rfl rfl rfl (by decide) rfl (by decide) ?_
    refine awps_gs rfl rfl rfl rfl (by decide) rfl (by decide) ?_
    refine awps_stp0 rfl rfl (by decide) (stp_pick rfl rfl rfl) ?_
    refine awps_nil ?_
    refine thenQ_nil ?_
    refine awp_condT rfl ?_
    refine awp_seq ?_
    refine awp_region ?_
    refine awps_stp0 rfl rfl (by decide) (stp_move (.inr rfl) rfl) ?_
    refine awps_stp0 rfl rfl (by decide) (stp_move (.inr rfl) rfl) ?_
    refine awps_nil ?_
    refine thenQ_nil ?_
    refine awp_ret ?_
    refine thenQ_ret (?_)
    -- leaf g10Fg14Fg19Fg24T
    refine ret0 (noL hL) (.inl rfl) (resAs_tmp rfl (resAs_tmp rfl (resAs_nil))) ?_ ?_
    · rfl
    refine ⟨gfin ?_ rfl, rfl⟩
    rw [guardE]; repeat' split
    all_goals first | rfl | omega | (simp_all; done) | (simp_all; omega)
  try simp only [↓str_beq_t, ↓str_beq_f, decide_eq_true_eq, decide_eq_false_iff_not, Bool.not_eq_true', Bool.not_eq_false', Int.not_lt, Int.not_le, beq_iff_eq, beq_eq_false_iff_ne, bne_iff_ne, bne_eq_false_iff_eq, ne_eq] at g24
  first | refine awps_g0 rfl rfl rfl (by decide) rfl (by decide) (stp_load_all rfl tf_api_Term rfl rfl rfl rfl) ?_ | refine awps_g0 rfl rfl rfl (by decide) rfl (by decide) (stp_load rfl tf_api_Term rfl rfl rfl rfl rfl) ?_ | refine awps_g0 rfl rfl rfl (by decide) rfl (by decide) (stp_load_elpa rfl tf_api_Term rfl rfl) ?_ | refine awps_g0 rfl rfl rfl (by decide) rfl (by decide) (stp_load_elpn rfl tf_api_Term rfl rfl rfl) ?_
  refine awps_g0 rfl rfl rfl (by decide) rfl (by decide) (stp_call (avs := [_]) true rfl en_term_Is rfl rfl (Is_ok _ (by assumption) (by assumption)) (fun _ => rfl) rfl) ?_
  refine awps_g0 rfl rfl rfl (by decide) rfl (by decide) (stp_not rfl rfl) ?_
  refine awps_stp0 rfl rfl (by decide) (stp_pick rfl rfl rfl) ?_
  refine awps_stp0 rfl rfl (by decide) (stp_move (.inl rfl) rfl) ?_
  refine awps_split 29 rfl (fun g29 => ?_) (fun g29 => ?_)
  · try simp only [↓str_beq_t, ↓str_beq_f, decide_eq_true_eq, decide_eq_false_iff_not, Bool.not_eq_true', Bool.not_eq_false', Int.not_lt, Int.not_le, beq_iff_eq, beq_eq_false_iff_ne, bne_iff_ne, bne_eq_false_iff_eq, ne_eq] at g29
    refine awps_gs rfl rfl rfl rfl (by decide) rfl (by decide) ?_
    refine awps_gs rfl rfl rfl rfl (by decide) rfl (by decide) ?_
    refine awps_gs rfl rfl rfl rfl (by decide) rfl (by decide) ?_
    refine awps_stp0 rfl rfl (by decide) (stp_pick rfl rfl rfl) ?_
    refine awps_nil ?_
    refine thenQ_nil ?_
    refine awp_condT rfl ?_
    refine awp_seq ?_
    refine awp_region ?_
    refine awps_stp0 rfl rfl (by decide) (stp_move (.inr rfl) rfl) ?_
    refine awps_stp0 rfl rfl (by decide) (stp_move (.inr rfl) rfl) ?_
    refine awps_nil ?_
    refine thenQ_nil ?_
    refine awp_ret ?_
    refine thenQ_ret (?_)
    -- leaf g10Fg14Fg19Fg24Fg29T
    refine ret0 (noL hL) (.inl rfl) (resAs_tmp rfl (resAs_tmp rfl (resAs_nil))) ?_ ?_
    · rfl
    refine ⟨gfin ?_ rfl, rfl⟩
    rw [guardE]; repeat' split
    all_goals first | rfl | omega | (simp_all; done) | (simp_all; omega)
  try simp only [↓str_beq_t, ↓str_beq_f, decide_eq_true_eq, decide_eq_false_iff_not, Bool.not_eq_true', Bool.not_eq_false', Int.not_lt, Int.not_le, beq_iff_eq, beq_eq_false_iff_ne, bne_iff_ne, bne_eq_false_iff_eq, ne_eq] at g29
  first | refine awps_g0 rfl rfl rfl (by decide) rfl (by decide) (stp_load_all rfl tf_api_Term rfl rfl rfl rfl) ?_ | refine awps_g0 rfl rfl rfl (by decide) rfl (by decide) (stp_load rfl tf_api_Term rfl rfl rfl rfl rfl) ?_ | refine awps_g0 rfl rfl rfl (by decide) rfl (by decide) (stp_load_elpa rfl tf_api_Term rfl rfl) ?_ | refine awps_g0 rfl rfl rfl (by decide) rfl (by decide) (stp_load_elpn rfl tf_api_Term rfl rfl rfl) ?_
  refine awps_g0 rfl rfl rfl (by decide) rfl (by decide) (stp_call (avs := [_]) true rfl en_term_Is rfl rfl (Is_ok _ (by assumption) (by assumption)) (fun _ => rfl) rfl) ?_
  refine awps_g0 rfl rfl rfl (by decide) rfl (by decide) (stp_not rfl rfl) ?_
  refine awps_stp0 rfl rfl (by decide) (stp_pick rfl rfl rfl) ?_
  refine awps_nil ?_
  refine thenQ_nil ?_
  refine awp_cond rfl (fun c0 => ?_) (fun c0 => ?_)
  · try simp only [↓str_beq_t, ↓str_beq_f, decide_eq_true_eq, decide_eq_false_iff_not, Bool.not_eq_true', Bool.not_eq_false', Int.not_lt, Int.not_le, beq_iff_eq, beq_eq_false_iff_ne, bne_iff_ne, bne_eq_false_iff_eq, ne_eq] at c0
    refine awp_seq ?_
    refine awp_region ?_
    refine awps_stp0 rfl rfl (by decide) (stp_move (.inr rfl) rfl) ?_
    refine awps_stp0 rfl rfl (by decide) (stp_move (.inr rfl) rfl) ?_
    refine awps_nil ?_
    refine thenQ_nil ?_
    refine awp_ret ?_
    refine thenQ_ret (?_)
    -- leaf g10Fg14Fg19Fg24Fg29F0T
    refine ret0 (noL hL) (.inl rfl) (resAs_tmp rfl (resAs_tmp rfl (resAs_nil))) ?_ ?_
    · rfl
    refine ⟨gfin ?_ rfl, rfl⟩
    rw [guardE]; repeat' split
    all_goals first | rfl | omega | (simp_all; done) | (simp_all; omega)
  try simp only [↓str_beq_t, ↓str_beq_f, decide_eq_true_eq, decide_eq_false_iff_not, Bool.not_eq_true', Bool.not_eq_false', Int.not_lt, Int.not_le, beq_iff_eq, beq_eq_false_iff_ne, bne_iff_ne, bne_eq_false_iff_eq, ne_eq] at c0
  refine awp_skip ?_
  refine thenQ_nil ?_
  refine awp_seq ?_
  refine awp_seq ?_
  refine awp_region ?_
  refine awps_stp0 rfl rfl (by decide) (stp_move (.inl rfl) rfl) ?_
  refine awps_stp0 rfl rfl (by decide) (stp_binI rfl rfl rfl rfl) ?_
  refine awps_stp0 rfl rfl (by decide) (stp_move (.inl rfl) rfl) ?_
  refine awps_split 36 rfl (fun g36 => ?_) (fun g36 => ?_)
  · try simp only [↓str_beq_t, ↓str_beq_f, decide_eq_true_eq, decide_eq_false_iff_not, Bool.not_eq_true', Bool.not_eq_false', Int.not_lt, Int.not_le, beq_iff_eq, beq_eq_false_iff_ne, bne_iff_ne, bne_eq_false_iff_eq, ne_eq] at g36
    first | refine awps_g0 rfl rfl rfl (by decide) rfl (by decide) (stp_fieldAddr rfl fo_api_Term_0 rfl) ?_ | refine awps_g0 rfl rfl rfl (by decide) rfl (by decide) (stp_fieldAddr_elp rfl fo_api_Term_0 rfl) ?_
    first | refine awps_g0 rfl rfl rfl (by decide) rfl (by decide) (stp_load rfl tf_int rfl rfl rfl rfl rfl) ?_ | refine awps_g0 rfl rfl rfl (by decide) rfl (by decide) (stp_load_elp1 rfl tf_int rfl) ?_ | refine awps_g0 rfl rfl rfl (by decide) rfl (by decide) (stp_load_elpn rfl tf_int rfl rfl rfl) ?_
    refine awps_g0 rfl rfl rfl (by decide) rfl (by decide) (stp_binI rfl rfl rfl rfl) ?_
    refine awps_g0 rfl rfl rfl (by decide) rfl (by decide) (stp_move (.inl rfl) rfl) ?_
    refine awps_split 40 rfl (fun g40 => ?_) (fun g40 => ?_)
    · try simp only [↓str_beq_t, ↓str_beq_f, decide_eq_true_eq, decide_eq_false_iff_not, Bool.not_eq_true', Bool.not_eq_false', Int.not_lt, Int.not_le, beq_iff_eq, beq_eq_false_iff_ne, bne_iff_ne, bne_eq_false_iff_eq, ne_eq] at g40
      refine awps_gs rfl rfl rfl rfl (by decide) rfl (by decide) ?_
      refine awps_gs rfl rfl rfl rfl (by decide) rfl (by decide) ?_
      refine awps_gs rfl rfl rfl rfl (by decide) rfl (by decide) ?_
      refine awps_g0 rfl rfl rfl (by decide) rfl (by decide) (stp_pick rfl rfl rfl) ?_
      refine awps_stp0 rfl rfl (by decide) (stp_pick rfl rfl rfl) ?_
      refine awps_nil ?_
      refine thenQ_nil ?_
      refine awp_condT rfl ?_
      refine awp_seq ?_
      refine awp_region ?_
      refine awps_stp0 rfl rfl (by decide) (stp_move (.inr rfl) rfl) ?_
      refine awps_stp0 rfl rfl (by decide) (stp_move (.inr rfl) rfl) ?_
      refine awps_nil ?_
      refine thenQ_nil ?_
      refine awp_ret ?_
      refine thenQ_ret (?_)
      -- leaf g10Fg14Fg19Fg24Fg29F0Fg36Tg40T
      refine ret0 (noL hL) (.inl rfl) (resAs_tmp rfl (resAs_tmp rfl (resAs_nil))) ?_ ?_
      · rfl
      refine ⟨gfin ?_ rfl, rfl⟩
      rw [guardE]; repeat' split
      all_goals first | rfl | omega | (simp_all; done) | (simp_all; omega)
    try simp only [↓str_beq_t, ↓str_beq_f, decide_eq_true_eq, decide_eq_false_iff_not, Bool.not_eq_true', Bool.not_eq_false', Int.not_lt, Int.not_le, beq_iff_eq, beq_eq_false_iff_ne, bne_iff_ne, bne_eq_false_iff_eq, ne_eq] at g40
    first | refine awps_g0 rfl rfl rfl (by decide) rfl (by decide) (stp_fieldAddr rfl fo_api_Term_0 rfl) ?_ | refine awps_g0 rfl rfl rfl (by decide) rfl (by decide) (stp_fieldAddr_elp rfl fo_api_Term_0 rfl) ?_
    first | refine awps_g0 rfl rfl rfl (by decide) rfl (by decide) (stp_load rfl tf_int rfl rfl rfl rfl rfl) ?_ | refine awps_g0 rfl rfl rfl (by decide) rfl (by decide) (stp_load_elp1 rfl tf_int rfl) ?_ | refine awps_g0 rfl rfl rfl (by decide) rfl (by decide) (stp_load_elpn rfl tf_int rfl rfl rfl) ?_
    refine awps_g0 rfl rfl rfl (by decide) rfl (by decide) (stp_binI rfl rfl rfl rfl) ?_
    refine awps_g0 rfl rfl rfl (by decide) rfl (by decide) (stp_pick rfl rfl rfl) ?_
    refine awps_stp0 rfl rfl (by decide) (stp_pick rfl rfl rfl) ?_
    refine awps_nil ?_
    refine thenQ_nil ?_
    refine awp_cond rfl (fun c1 => ?_) (fun c1 => ?_)
    · try simp only [↓str_beq_t, ↓str_beq_f, decide_eq_true_eq, decide_eq_false_iff_not, Bool.not_eq_true', Bool.not_eq_false', Int.not_lt, Int.not_le, beq_iff_eq, beq_eq_false_iff_ne, bne_iff_ne, bne_eq_false_iff_eq, ne_eq] at c1
      refine awp_seq ?_
      refine awp_region ?_
      refine awps_stp0 rfl rfl (by decide) (stp_move (.inr rfl) rfl) ?_
      refine awps_stp0 rfl rfl (by decide) (stp_move (.inr rfl) rfl) ?_
      refine awps_nil ?_
      refine thenQ_nil ?_
      refine awp_ret ?_
      refine thenQ_ret (?_)
      -- leaf g10Fg14Fg19Fg24Fg29F0Fg36Tg40F1T
      refine ret0 (noL hL) (.inl rfl) (resAs_tmp rfl (resAs_tmp rfl (resAs_nil))) ?_ ?_
      · rfl
      refine ⟨gfin ?_ rfl, rfl⟩
      rw [guardE]; repeat' split
      all_goals first | rfl | omega | (simp_all; done) | (simp_all; omega)
    try simp only [↓str_beq_t, ↓str_beq_f, decide_eq_true_eq, decide_eq_false_iff_not, Bool.not_eq_true', Bool.not_eq_false', Int.not_lt, Int.not_le, beq_iff_eq, beq_eq_false_iff_ne, bne_iff_ne, bne_eq_false_iff_eq, ne_eq] at c1
    refine awp_skip ?_
    refine thenQ_nil ?_
    refine awp_seq ?_
    refine awp_region ?_
    refine awps_stp0 rfl rfl (by decide) (stp_move (.inl rfl) rfl) ?_
    first | refine awps_stp0 rfl rfl (by decide) (stp_load_all rfl tf_api_Term rfl rfl rfl rfl) ?_ | refine awps_stp0 rfl rfl (by decide) (stp_load rfl tf_api_Term rfl rfl rfl rfl rfl) ?_ | refine awps_stp0 rfl rfl (by decide) (stp_load_elpa rfl tf_api_Term rfl rfl) ?_ | refine awps_stp0 rfl rfl (by decide) (stp_load_elpn rfl tf_api_Term rfl rfl rfl) ?_
    first | refine awps_stp0 rfl rfl (by decide) (stp_load_all rfl tf_api_Term rfl rfl rfl rfl) ?_ | refine awps_stp0 rfl rfl (by decide) (stp_load rfl tf_api_Term rfl rfl rfl rfl rfl) ?_ | refine awps_stp0 rfl rfl (by decide) (stp_load_elpa rfl tf_api_Term rfl rfl) ?_ | refine awps_stp0 rfl rfl (by decide) (stp_load_elpn rfl tf_api_Term rfl rfl rfl) ?_
    have hda := (mayT_dle (t := a) (by assumption)).1
    refine awps_call (avs := [_, _, _]) true rfl rfl rfl (by decide) en_known_Compare rfl rfl (knownCompare_ok _ _ _ (by assumption) (by assumption) (by assumption)) rfl rfl ?_
    refine awps_stp0 rfl rfl (by decide) (stp_move (.inr rfl) rfl) ?_
    refine awps_stp0 rfl rfl (by decide) (stp_move (.inr rfl) rfl) ?_
    refine awps_nil ?_
    refine thenQ_nil ?_
    refine awp_ret ?_
    -- leaf g10Fg14Fg19Fg24Fg29F0Fg36Tg40F1F
    refine ret0 (noL hL) (.inl rfl) (resAs_tmp rfl (resAs_tmp rfl (resAs_nil))) ?_ ?_
    · rfl
    refine ⟨gfin ?_ rfl, rfl⟩
    rw [guardE]; repeat' split
    all_goals first | rfl | omega | (simp_all; done) | (simp_all; omega)
  try simp only [↓str_beq_t, ↓str_beq_f, decide_eq_true_eq, decide_eq_false_iff_not, Bool.not_eq_true', Bool.not_eq_false', Int.not_lt, Int.not_le, beq_iff_eq, beq_eq_false_iff_ne, bne_iff_ne, bne_eq_false_iff_eq, ne_eq] at g36
  refine awps_gs rfl rfl rfl rfl (by decide) rfl (by decide) ?_
  refine awps_gs rfl rfl rfl rfl (by decide) rfl (by decide) ?_
  refine awps_gs rfl rfl rfl rfl (by decide) rfl (by decide) ?_
  refine awps_gs rfl rfl rfl rfl (by decide) rfl (by decide) ?_
  refine awps_gu rfl rfl rfl (by decide) rfl (by decide) ?_
  refine awps_gu rfl rfl rfl (by decide) rfl (by decide) ?_
  refine awps_gu rfl rfl rfl (by decide) rfl (by decide) ?_
  refine awps_gs rfl rfl rfl rfl (by decide) rfl (by decide) ?_
  refine awps_stp0 rfl rfl (by decide) (stp_pick rfl rfl rfl) ?_
  refine awps_nil ?_
  refine thenQ_nil ?_
  refine awp_condF rfl ?_
  refine awp_skip ?_
  refine thenQ_nil ?_
  refine awp_seq ?_
  refine awp_region ?_
  refine awps_stp0 rfl rfl (by decide) (stp_move (.inl rfl) rfl) ?_
  first | refine awps_stp0 rfl rfl (by decide) (stp_load_all rfl tf_api_Term rfl rfl rfl rfl) ?_ | refine awps_stp0 rfl rfl (by decide) (stp_load rfl tf_api_Term rfl rfl rfl rfl rfl) ?_ | refine awps_stp0 rfl rfl (by decide) (stp_load_elpa rfl tf_api_Term rfl rfl) ?_ | refine awps_stp0 rfl rfl (by decide) (stp_load_elpn rfl tf_api_Term rfl rfl rfl) ?_
  first | refine awps_stp0 rfl rfl (by decide) (stp_load_all rfl tf_api_Term rfl rfl rfl rfl) ?_ | refine awps_stp0 rfl rfl (by decide) (stp_load rfl tf_api_Term rfl rfl rfl rfl rfl) ?_ | refine awps_stp0 rfl rfl (by decide) (stp_load_elpa rfl tf_api_Term rfl rfl) ?_ | refine awps_stp0 rfl rfl (by decide) (stp_load_elpn rfl tf_api_Term rfl rfl rfl) ?_
  have hda := (mayT_dle (t := a) (by assumption)).1
  refine awps_call (avs := [_, _, _]) true rfl rfl rfl (by decide) en_known_Compare rfl rfl (knownCompare_ok _ _ _ (by assumption) (by assumption) (by assumption)) rfl rfl ?_
  refine awps_stp0 rfl rfl (by decide) (stp_move (.inr rfl) rfl) ?_
  refine awps_stp0 rfl rfl (by decide) (stp_move (.inr rfl) rfl) ?_
  refine awps_nil ?_
  refine thenQ_nil ?_
  refine awp_ret ?_
  -- leaf g10Fg14Fg19Fg24Fg29F0Fg36F
  refine ret0 (noL hL) (.inl rfl) (resAs_tmp rfl (resAs_tmp rfl (resAs_nil))) ?_ ?_
  · rfl
  refine ⟨gfin ?_ rfl, rfl⟩
  rw [guardE]; repeat' split
  all_goals first | rfl | omega | (simp_all; done) | (simp_all; omega)

/-- The page's own compare: whether it can be, and is. -/
def pageOk (kind : Int) (a b : Tm) : Bool := decide (kind = 3 ∨ kind = 4 ∨ (a.kind = 2 ∧ b.kind = 2))
def pageC (kind : Int) (a b : Tm) : Bool :=
  if kind = 3 then eqT 5 a b else if kind = 4 then !eqT 5 a b else if a.kind ≠ 2 ∨ b.kind ≠ 2 then false
  else if kind = 1 then decide (a.n < b.n) else decide (a.n ≤ b.n)
theorem pfin {kind : Int} {a b : Tm} {x y : Bool} (h : x = pageC kind a b) (k : y = pageOk kind a b) : resV [bv x, bv y] = AV.tup [bv (pageC kind a b), bv (pageOk kind a b)] := by subst h; subst k; rfl
theorem pageCompare_ok (kind : Int) (a b : Tm) (hd : dle 5 a) (ha : a.wf) (hb : b.wf) : PF 15 [iv kind, tmA false a, tmA false b] (.tup [bv (pageC kind a b), bv (pageOk kind a b)]) := by
  refine AC_intro Try.func15 rfl Try.ntmps15 (Nat.le_of_ble_eq_true rfl) fun c hL => ?_
  refine awp_seq ?_
  refine awp_region ?_
  refine awps_stp1 rfl rfl (by decide) (stp_box 4 rfl rfl rfl) rfl ?_
  refine awps_stp1 rfl rfl (by decide) (stp_box 5 rfl rfl rfl) rfl ?_
  refine awps_stp0 rfl rfl (by decide) (stp_move (.inr rfl) rfl) ?_
  refine awps_stp0 rfl rfl (by decide) (stp_move (.inr rfl) rfl) ?_
  refine awps_nil ?_
  refine thenQ_nil ?_
  refine awp_seq ?_
  refine awp_seq ?_
  refine awp_region ?_
  refine awps_stp0 rfl rfl (by decide) (stp_move (.inl rfl) rfl) ?_
  refine awps_nil ?_
  refine thenQ_nil ?_
  refine awp_block ?_
  refine awp_seq ?_
  refine awp_region ?_
  refine awps_stp0 rfl rfl (by decide) (stp_binI rfl rfl rfl rfl) ?_
  refine awps_stp0 rfl rfl (by decide) (stp_move (.inr rfl) rfl) ?_
  refine awps_nil ?_
  refine thenQ_nil ?_
  refine awp_cond rfl (fun c0 => ?_) (fun c0 => ?_)
  · try simp only [↓str_beq_t, ↓str_beq_f, decide_eq_true_eq, decide_eq_false_iff_not, Bool.not_eq_true', Bool.not_eq_false', Int.not_lt, Int.not_le, beq_iff_eq, beq_eq_false_iff_ne, bne_iff_ne, bne_eq_false_iff_eq, ne_eq] at c0
    refine awp_seq ?_
    refine awp_region ?_
    first | refine awps_stp0 rfl rfl (by decide) (stp_load_all rfl tf_api_Term rfl rfl rfl rfl) ?_ | refine awps_stp0 rfl rfl (by decide) (stp_load rfl tf_api_Term rfl rfl rfl rfl rfl) ?_ | refine awps_stp0 rfl rfl (by decide) (stp_load_elpa rfl tf_api_Term rfl rfl) ?_ | refine awps_stp0 rfl rfl (by decide) (stp_load_elpn rfl tf_api_Term rfl rfl rfl) ?_
    first | refine awps_stp0 rfl rfl (by decide) (stp_load_all rfl tf_api_Term rfl rfl rfl rfl) ?_ | refine awps_stp0 rfl rfl (by decide) (stp_load rfl tf_api_Term rfl rfl rfl rfl rfl) ?_ | refine awps_stp0 rfl rfl (by decide) (stp_load_elpa rfl tf_api_Term rfl rfl) ?_ | refine awps_stp0 rfl rfl (by decide) (stp_load_elpn rfl tf_api_Term rfl rfl rfl) ?_
    refine awps_call (avs := [_, _]) true rfl rfl rfl (by decide) en_almagestref0_EqTerm rfl rfl (EqTerm_ok 5 _ _ (by assumption) (by assumption) (by assumption)) rfl rfl ?_
    refine awps_stp0 rfl rfl (by decide) (stp_move (.inr rfl) rfl) ?_
    refine awps_stp0 rfl rfl (by decide) (stp_move (.inr rfl) rfl) ?_
    refine awps_nil ?_
    refine thenQ_nil ?_
    refine awp_ret ?_
    refine inQ_ret (thenQ_ret (?_))
    -- leaf 0T
    refine ret0 (noL hL) (.inl rfl) (resAs_tmp rfl (resAs_tmp rfl (resAs_nil))) ?_ ?_
    · rfl
    refine ⟨pfin ?_ ?_, rfl⟩
    · rw [pageC]; repeat' split
      all_goals first | rfl | omega | (simp_all; done) | (simp_all; omega)
    · rw [pageOk]; simp_all
  try simp only [↓str_beq_t, ↓str_beq_f, decide_eq_true_eq, decide_eq_false_iff_not, Bool.not_eq_true', Bool.not_eq_false', Int.not_lt, Int.not_le, beq_iff_eq, beq_eq_false_iff_ne, bne_iff_ne, bne_eq_false_iff_eq, ne_eq] at c0
  refine awp_seq ?_
  refine awp_region ?_
  refine awps_stp0 rfl rfl (by decide) (stp_binI rfl rfl rfl rfl) ?_
  refine awps_stp0 rfl rfl (by decide) (stp_move (.inr rfl) rfl) ?_
  refine awps_nil ?_
  refine thenQ_nil ?_
  refine awp_cond rfl (fun c1 => ?_) (fun c1 => ?_)
  · try simp only [↓str_beq_t, ↓str_beq_f, decide_eq_true_eq, decide_eq_false_iff_not, Bool.not_eq_true', Bool.not_eq_false', Int.not_lt, Int.not_le, beq_iff_eq, beq_eq_false_iff_ne, bne_iff_ne, bne_eq_false_iff_eq, ne_eq] at c1
    refine awp_seq ?_
    refine awp_region ?_
    first | refine awps_stp0 rfl rfl (by decide) (stp_load_all rfl tf_api_Term rfl rfl rfl rfl) ?_ | refine awps_stp0 rfl rfl (by decide) (stp_load rfl tf_api_Term rfl rfl rfl rfl rfl) ?_ | refine awps_stp0 rfl rfl (by decide) (stp_load_elpa rfl tf_api_Term rfl rfl) ?_ | refine awps_stp0 rfl rfl (by decide) (stp_load_elpn rfl tf_api_Term rfl rfl rfl) ?_
    first | refine awps_stp0 rfl rfl (by decide) (stp_load_all rfl tf_api_Term rfl rfl rfl rfl) ?_ | refine awps_stp0 rfl rfl (by decide) (stp_load rfl tf_api_Term rfl rfl rfl rfl rfl) ?_ | refine awps_stp0 rfl rfl (by decide) (stp_load_elpa rfl tf_api_Term rfl rfl) ?_ | refine awps_stp0 rfl rfl (by decide) (stp_load_elpn rfl tf_api_Term rfl rfl rfl) ?_
    refine awps_call (avs := [_, _]) true rfl rfl rfl (by decide) en_almagestref0_EqTerm rfl rfl (EqTerm_ok 5 _ _ (by assumption) (by assumption) (by assumption)) rfl rfl ?_
    refine awps_stp0 rfl rfl (by decide) (stp_not rfl rfl) ?_
    refine awps_stp0 rfl rfl (by decide) (stp_move (.inr rfl) rfl) ?_
    refine awps_stp0 rfl rfl (by decide) (stp_move (.inr rfl) rfl) ?_
    refine awps_nil ?_
    refine thenQ_nil ?_
    refine awp_ret ?_
    refine inQ_ret (thenQ_ret (?_))
    -- leaf 0F1T
    refine ret0 (noL hL) (.inl rfl) (resAs_tmp rfl (resAs_tmp rfl (resAs_nil))) ?_ ?_
    · rfl
    refine ⟨pfin ?_ ?_, rfl⟩
    · rw [pageC]; repeat' split
      all_goals first | rfl | omega | (simp_all; done) | (simp_all; omega)
    · rw [pageOk]; simp_all
  try simp only [↓str_beq_t, ↓str_beq_f, decide_eq_true_eq, decide_eq_false_iff_not, Bool.not_eq_true', Bool.not_eq_false', Int.not_lt, Int.not_le, beq_iff_eq, beq_eq_false_iff_ne, bne_iff_ne, bne_eq_false_iff_eq, ne_eq] at c1
  refine awp_skip ?_
  refine inQ_nil ?_
  refine thenQ_nil ?_
  refine awp_seq ?_
  refine awp_seq ?_
  refine awp_region ?_
  first | refine awps_stp0 rfl rfl (by decide) (stp_fieldAddr rfl fo_api_Term_0 rfl) ?_ | refine awps_stp0 rfl rfl (by decide) (stp_fieldAddr_elp rfl fo_api_Term_0 rfl) ?_
  first | refine awps_stp0 rfl rfl (by decide) (stp_load rfl tf_int rfl rfl rfl rfl rfl) ?_ | refine awps_stp0 rfl rfl (by decide) (stp_load_elp1 rfl tf_int rfl) ?_ | refine awps_stp0 rfl rfl (by decide) (stp_load_elpn rfl tf_int rfl rfl rfl) ?_
  refine awps_stp0 rfl rfl (by decide) (stp_binI rfl rfl rfl rfl) ?_
  refine awps_stp0 rfl rfl (by decide) (stp_move (.inl rfl) rfl) ?_
  refine awps_split 23 rfl (fun g23 => ?_) (fun g23 => ?_)
  · try simp only [↓str_beq_t, ↓str_beq_f, decide_eq_true_eq, decide_eq_false_iff_not, Bool.not_eq_true', Bool.not_eq_false', Int.not_lt, Int.not_le, beq_iff_eq, beq_eq_false_iff_ne, bne_iff_ne, bne_eq_false_iff_eq, ne_eq] at g23
    refine awps_gs rfl rfl rfl rfl (by decide) rfl (by decide) ?_
    refine awps_gs rfl rfl rfl rfl (by decide) rfl (by decide) ?_
    refine awps_gs rfl rfl rfl rfl (by decide) rfl (by decide) ?_
    refine awps_stp0 rfl rfl (by decide) (stp_pick rfl rfl rfl) ?_
    refine awps_nil ?_
    refine thenQ_nil ?_
    refine awp_condT rfl ?_
    refine awp_seq ?_
    refine awp_region ?_
    refine awps_stp0 rfl rfl (by decide) (stp_move (.inr rfl) rfl) ?_
    refine awps_stp0 rfl rfl (by decide) (stp_move (.inr rfl) rfl) ?_
    refine awps_nil ?_
    refine thenQ_nil ?_
    refine awp_ret ?_
    refine thenQ_ret (?_)
    -- leaf 0F1Fg23T
    refine ret0 (noL hL) (.inl rfl) (resAs_tmp rfl (resAs_tmp rfl (resAs_nil))) ?_ ?_
    · rfl
    refine ⟨pfin ?_ ?_, rfl⟩
    · rw [pageC]; repeat' split
      all_goals first | rfl | omega | (simp_all; done) | (simp_all; omega)
    · rw [pageOk]; simp_all
  try simp only [↓str_beq_t, ↓str_beq_f, decide_eq_true_eq, decide_eq_false_iff_not, Bool.not_eq_true', Bool.not_eq_false', Int.not_lt, Int.not_le, beq_iff_eq, beq_eq_false_iff_ne, bne_iff_ne, bne_eq_false_iff_eq, ne_eq] at g23
  first | refine awps_g0 rfl rfl rfl (by decide) rfl (by decide) (stp_fieldAddr rfl fo_api_Term_0 rfl) ?_ | refine awps_g0 rfl rfl rfl (by decide) rfl (by decide) (stp_fieldAddr_elp rfl fo_api_Term_0 rfl) ?_
  first | refine awps_g0 rfl rfl rfl (by decide) rfl (by decide) (stp_load rfl tf_int rfl rfl rfl rfl rfl) ?_ | refine awps_g0 rfl rfl rfl (by decide) rfl (by decide) (stp_load_elp1 rfl tf_int rfl) ?_ | refine awps_g0 rfl rfl rfl (by decide) rfl (by decide) (stp_load_elpn rfl tf_int rfl rfl rfl) ?_
  refine awps_g0 rfl rfl rfl (by decide) rfl (by decide) (stp_binI rfl rfl rfl rfl) ?_
  refine awps_stp0 rfl rfl (by decide) (stp_pick rfl rfl rfl) ?_
  refine awps_nil ?_
  refine thenQ_nil ?_
  refine awp_cond rfl (fun c2 => ?_) (fun c2 => ?_)
  · try simp only [↓str_beq_t, ↓str_beq_f, decide_eq_true_eq, decide_eq_false_iff_not, Bool.not_eq_true', Bool.not_eq_false', Int.not_lt, Int.not_le, beq_iff_eq, beq_eq_false_iff_ne, bne_iff_ne, bne_eq_false_iff_eq, ne_eq] at c2
    refine awp_seq ?_
    refine awp_region ?_
    refine awps_stp0 rfl rfl (by decide) (stp_move (.inr rfl) rfl) ?_
    refine awps_stp0 rfl rfl (by decide) (stp_move (.inr rfl) rfl) ?_
    refine awps_nil ?_
    refine thenQ_nil ?_
    refine awp_ret ?_
    refine thenQ_ret (?_)
    -- leaf 0F1Fg23F2T
    refine ret0 (noL hL) (.inl rfl) (resAs_tmp rfl (resAs_tmp rfl (resAs_nil))) ?_ ?_
    · rfl
    refine ⟨pfin ?_ ?_, rfl⟩
    · rw [pageC]; repeat' split
      all_goals first | rfl | omega | (simp_all; done) | (simp_all; omega)
    · rw [pageOk]; simp_all
  try simp only [↓str_beq_t, ↓str_beq_f, decide_eq_true_eq, decide_eq_false_iff_not, Bool.not_eq_true', Bool.not_eq_false', Int.not_lt, Int.not_le, beq_iff_eq, beq_eq_false_iff_ne, bne_iff_ne, bne_eq_false_iff_eq, ne_eq] at c2
  refine awp_skip ?_
  refine thenQ_nil ?_
  refine awp_seq ?_
  refine awp_seq ?_
  refine awp_region ?_
  refine awps_stp0 rfl rfl (by decide) (stp_move (.inl rfl) rfl) ?_
  refine awps_stp0 rfl rfl (by decide) (stp_binI rfl rfl rfl rfl) ?_
  refine awps_nil ?_
  refine thenQ_nil ?_
  refine awp_cond rfl (fun c3 => ?_) (fun c3 => ?_)
  · try simp only [↓str_beq_t, ↓str_beq_f, decide_eq_true_eq, decide_eq_false_iff_not, Bool.not_eq_true', Bool.not_eq_false', Int.not_lt, Int.not_le, beq_iff_eq, beq_eq_false_iff_ne, bne_iff_ne, bne_eq_false_iff_eq, ne_eq] at c3
    refine awp_seq ?_
    refine awp_region ?_
    first | refine awps_stp0 rfl rfl (by decide) (stp_fieldAddr rfl fo_api_Term_2 rfl) ?_ | refine awps_stp0 rfl rfl (by decide) (stp_fieldAddr_elp rfl fo_api_Term_2 rfl) ?_
    first | refine awps_stp0 rfl rfl (by decide) (stp_load rfl tf_int rfl rfl rfl rfl rfl) ?_ | refine awps_stp0 rfl rfl (by decide) (stp_load_elp1 rfl tf_int rfl) ?_ | refine awps_stp0 rfl rfl (by decide) (stp_load_elpn rfl tf_int rfl rfl rfl) ?_
    first | refine awps_stp0 rfl rfl (by decide) (stp_fieldAddr rfl fo_api_Term_2 rfl) ?_ | refine awps_stp0 rfl rfl (by decide) (stp_fieldAddr_elp rfl fo_api_Term_2 rfl) ?_
    first | refine awps_stp0 rfl rfl (by decide) (stp_load rfl tf_int rfl rfl rfl rfl rfl) ?_ | refine awps_stp0 rfl rfl (by decide) (stp_load_elp1 rfl tf_int rfl) ?_ | refine awps_stp0 rfl rfl (by decide) (stp_load_elpn rfl tf_int rfl rfl rfl) ?_
    refine awps_stp0 rfl rfl (by decide) (stp_binI rfl rfl rfl rfl) ?_
    refine awps_stp0 rfl rfl (by decide) (stp_move (.inr rfl) rfl) ?_
    refine awps_stp0 rfl rfl (by decide) (stp_move (.inr rfl) rfl) ?_
    refine awps_nil ?_
    refine thenQ_nil ?_
    refine awp_ret ?_
    refine thenQ_ret (?_)
    -- leaf 0F1Fg23F2F3T
    refine ret0 (noL hL) (.inl rfl) (resAs_tmp rfl (resAs_tmp rfl (resAs_nil))) ?_ ?_
    · rfl
    refine ⟨pfin ?_ ?_, rfl⟩
    · rw [pageC]; repeat' split
      all_goals first | rfl | omega | (simp_all; done) | (simp_all; omega)
    · rw [pageOk]; simp_all
  try simp only [↓str_beq_t, ↓str_beq_f, decide_eq_true_eq, decide_eq_false_iff_not, Bool.not_eq_true', Bool.not_eq_false', Int.not_lt, Int.not_le, beq_iff_eq, beq_eq_false_iff_ne, bne_iff_ne, bne_eq_false_iff_eq, ne_eq] at c3
  refine awp_skip ?_
  refine thenQ_nil ?_
  refine awp_seq ?_
  refine awp_region ?_
  first | refine awps_stp0 rfl rfl (by decide) (stp_fieldAddr rfl fo_api_Term_2 rfl) ?_ | refine awps_stp0 rfl rfl (by decide) (stp_fieldAddr_elp rfl fo_api_Term_2 rfl) ?_
  first | refine awps_stp0 rfl rfl (by decide) (stp_load rfl tf_int rfl rfl rfl rfl rfl) ?_ | refine awps_stp0 rfl rfl (by decide) (stp_load_elp1 rfl tf_int rfl) ?_ | refine awps_stp0 rfl rfl (by decide) (stp_load_elpn rfl tf_int rfl rfl rfl) ?_
  first | refine awps_stp0 rfl rfl (by decide) (stp_fieldAddr rfl fo_api_Term_2 rfl) ?_ | refine awps_stp0 rfl rfl (by decide) (stp_fieldAddr_elp rfl fo_api_Term_2 rfl) ?_
  first | refine awps_stp0 rfl rfl (by decide) (stp_load rfl tf_int rfl rfl rfl rfl rfl) ?_ | refine awps_stp0 rfl rfl (by decide) (stp_load_elp1 rfl tf_int rfl) ?_ | refine awps_stp0 rfl rfl (by decide) (stp_load_elpn rfl tf_int rfl rfl rfl) ?_
  refine awps_stp0 rfl rfl (by decide) (stp_binI rfl rfl rfl rfl) ?_
  refine awps_stp0 rfl rfl (by decide) (stp_move (.inr rfl) rfl) ?_
  refine awps_stp0 rfl rfl (by decide) (stp_move (.inr rfl) rfl) ?_
  refine awps_nil ?_
  refine thenQ_nil ?_
  refine awp_ret ?_
  -- leaf 0F1Fg23F2F3F
  refine ret0 (noL hL) (.inl rfl) (resAs_tmp rfl (resAs_tmp rfl (resAs_nil))) ?_ ?_
  · rfl
  refine ⟨pfin ?_ ?_, rfl⟩
  · rw [pageC]; repeat' split
    all_goals first | rfl | omega | (simp_all; done) | (simp_all; omega)
  · rw [pageOk]; simp_all
theorem num12_ok (e : Int) : PF 16 [iv e] (iv e) := by
  refine AC_intro Try.func16 rfl Try.ntmps16 (Nat.le_of_ble_eq_true rfl) fun c hL => ?_
  refine awp_seq ?_
  refine awp_region ?_
  refine awps_stp0 rfl rfl (by decide) (stp_move (.inr rfl) rfl) ?_
  refine awps_nil ?_
  refine thenQ_nil ?_
  refine awp_seq ?_
  refine awp_region ?_
  refine awps_stp0 rfl rfl (by decide) (stp_move (.inl rfl) rfl) ?_
  refine awps_stp0 rfl rfl (by decide) (stp_move (.inr rfl) rfl) ?_
  refine awps_nil ?_
  refine thenQ_nil ?_
  refine awp_ret ?_
  -- leaf 
  refine ret0 (noL hL) (.inl rfl) (resAs_tmp rfl (resAs_nil)) ?_ ?_
  · rfl
  exact ⟨rfl, rfl⟩
def emp : ByteArray := ⟨#[]⟩
theorem numTm_wf (n : Int) (h : i64 n) : (Tm.mk 2 emp n []).wf := ⟨⟨by simp, by simp⟩, Nat.zero_le _, h, Nat.zero_le _, trivial⟩
theorem wakes12_ok : PF 17 [] (bv true) := by
  have e1 : guardC 1 ⟨2, emp, 1, []⟩ ⟨2, emp, 2, []⟩ = true := by decide
  have e2 : guardE 1 ⟨2, emp, 1, []⟩ ⟨2, emp, 2, []⟩ = 0 := by decide
  have key := guardCompare_ok 1 ⟨2, emp, 1, []⟩ ⟨2, emp, 2, []⟩ (numTm_wf 1 (by decide)) (numTm_wf 2 (by decide))
  rw [e1, e2] at key
  refine AC_intro Try.func17 rfl Try.ntmps17 (Nat.le_of_ble_eq_true rfl) fun c hL => ?_
  refine awp_seq ?_
  refine awp_region ?_
  refine awps_stp0 rfl rfl (by decide) (stp_move (.inr rfl) rfl) ?_
  refine awps_nil ?_
  refine thenQ_nil ?_
  refine awp_seq ?_
  refine awp_region ?_
  refine awps_stp0 rfl rfl (by decide) (stp_build rfl zv_api_Term rfl pl_api_Term rfl rfl) ?_
  refine awps_stp0 rfl rfl (by decide) (stp_build rfl zv_api_Term rfl pl_api_Term rfl rfl) ?_
  refine awps_call (avs := [_, _, _]) true rfl rfl rfl (by decide) en_guard_Compare rfl rfl (AC_le (.cons .refl (.cons (.agg (.cons .refl (.cons .refl (.cons .refl (.cons .nil .nil))))) (.cons (.agg (.cons .refl (.cons .refl (.cons .refl (.cons .nil .nil))))) .nil))) key) rfl rfl ?_
  refine awps_stp0 rfl rfl (by decide) (stp_move (.inl rfl) rfl) ?_
  refine awps_stp0 rfl rfl (by decide) (stp_extract rfl rfl rfl) ?_
  refine awps_stp0 rfl rfl (by decide) (stp_extract rfl rfl rfl) ?_
  refine awps_stp0 rfl rfl (by decide) (stp_move (.inr rfl) rfl) ?_
  refine awps_stp0 rfl rfl (by decide) (stp_move (.inr rfl) rfl) ?_
  refine awps_nil ?_
  refine thenQ_nil ?_
  refine awp_seq ?_
  refine awp_region ?_
  refine awps_stp0 rfl rfl (by decide) (stp_move (.inl rfl) rfl) ?_
  refine awps_call (avs := [_]) true rfl rfl rfl (by decide) en_almagestlaw12_num rfl rfl (num12_ok _) rfl rfl ?_
  refine awps_stp0 rfl rfl (by decide) (stp_binI rfl rfl rfl rfl) ?_
  refine awps_stp0 rfl rfl (by decide) (stp_move (.inl rfl) rfl) ?_
  refine awps_split 12 rfl (fun g12 => ?_) (fun g12 => ?_)
  · try simp only [↓str_beq_t, ↓str_beq_f, decide_eq_true_eq, decide_eq_false_iff_not, Bool.not_eq_true', Bool.not_eq_false', Int.not_lt, Int.not_le, beq_iff_eq, beq_eq_false_iff_ne, bne_iff_ne, bne_eq_false_iff_eq, ne_eq] at g12
    refine awps_g0 rfl rfl rfl (by decide) rfl (by decide) (stp_move (.inl rfl) rfl) ?_
    refine awps_stp0 rfl rfl (by decide) (stp_pick rfl rfl rfl) ?_
    refine awps_stp0 rfl rfl (by decide) (stp_move (.inr rfl) rfl) ?_
    refine awps_nil ?_
    refine thenQ_nil ?_
    refine awp_ret ?_
    -- leaf g12T
    refine ret0 (noL hL) (.inl rfl) (resAs_tmp rfl (resAs_nil)) ?_ ?_
    · rfl
    exact ⟨rfl, rfl⟩
  try simp only [↓str_beq_t, ↓str_beq_f, decide_eq_true_eq, decide_eq_false_iff_not, Bool.not_eq_true', Bool.not_eq_false', Int.not_lt, Int.not_le, beq_iff_eq, beq_eq_false_iff_ne, bne_iff_ne, bne_eq_false_iff_eq, ne_eq] at g12
  exact absurd trivial g12

/-! ### The plain law: what guard compares is the page's -/
theorem cmpI_zero (a b : Int) : cmpI a b = 0 ↔ a = b := by
  simp only [cmpI]; split
  · constructor
    · intro h; cases h
    · intro h; omega
  · split
    · constructor
      · intro h; cases h
      · intro h; omega
    · constructor
      · intro _; omega
      · intro _; rfl
theorem cmpS_zero (a b : ByteArray) : cmpS a b = 0 ↔ a = b := by
  rw [cmpS_eq]
  split
  · rename_i h
    constructor
    · intro h; cases h
    · rintro rfl
      have irr : ∀ l : List UInt8, Op.bytesLess l l = false := fun l => by
        induction l with
        | nil => rfl
        | cons x l ih => simp [Op.bytesLess, ih]
      rw [ltS, irr] at h; cases h
  · split
    · rename_i h; simp [h]
    · rename_i h; simp [h]
theorem cmpL_zero (f : Tm → Tm → Int) (g : Tm → Tm → Bool) : ∀ (l m : List Tm), (∀ u v, u ∈ l → (f u v = 0 ↔ g u v = true)) → (cmpL f l m = 0 ↔ eqL g l m = true)
  | [], [], _ => by simp [cmpL, eqL]
  | [], _ :: _, _ => by simp [cmpL, eqL]
  | _ :: _, [], _ => by simp [cmpL, eqL]
  | a :: l, b :: m, h => by
    have h1 := h a b (by simp)
    have ih := cmpL_zero f g l m (fun u v hu => h u v (by simp [hu]))
    simp only [cmpL, eqL, Bool.and_eq_true, ← h1]
    split
    · rename_i h0; simp [h0, ih]
    · rename_i h0; simp [h0]
theorem orL_zero (a b c d : Int) : orL [a, b, c, d] = 0 ↔ a = 0 ∧ b = 0 ∧ c = 0 ∧ d = 0 := by
  simp only [orL]; split
  · split
    · split
      · split
        · simp_all
        · simp_all
      · simp_all
    · simp_all
  · simp_all
theorem cmpT_zero : ∀ (d : Nat) (a b : Tm), dle d a → (cmpT d a b = 0 ↔ eqT d a b = true)
  | 0, a, b, h => h.elim
  | d + 1, a, b, h => by
    have hL := cmpL_zero (cmpT d) (eqT d) a.args b.args (fun u v hu => cmpT_zero d u v (h u hu))
    have hz := orL_zero (cmpI a.kind b.kind) (cmpI a.n b.n) (cmpI a.args.length b.args.length) (cmpS a.name b.name)
    simp only [cmpT, eqT, Bool.and_eq_true, decide_eq_true_eq, Array.toList_inj, data_inj]
    split
    · rename_i h0
      obtain ⟨h1, h2, h3, h4⟩ := hz.1 h0
      rw [cmpI_zero] at h1 h2
      rw [cmpS_zero] at h4
      rw [hL]
      exact ⟨fun h => ⟨⟨⟨h1, h4⟩, h2⟩, h⟩, fun h => h.2⟩
    · rename_i h0
      constructor
      · intro h; exact absurd h h0
      · rintro ⟨⟨⟨h1, h4⟩, h2⟩, h3⟩
        exfalso
        apply h0
        rw [hz, cmpI_zero, cmpI_zero, cmpI_zero, cmpS_zero]
        refine ⟨h1, h2, ?_, h4⟩
        by_cases hl : a.args.length = b.args.length
        · rw [hl]
        · rw [eqL_len _ hl] at h3; cases h3
theorem may_num {t : Tm} (h : mayT t = true) (hk : t.kind = 2) : t.name = ⟨#[]⟩ ∧ t.args = [] := by
  unfold mayT at h
  rw [mayS, if_neg (by omega), if_neg (by omega), if_pos hk] at h
  simp only [Bool.and_eq_true, decide_eq_true_eq] at h
  exact ⟨size_zero.1 h.1.2, List.eq_nil_of_length_eq_zero h.2⟩
theorem cmpT_num {a b : Tm} (ha : mayT a = true) (hb : mayT b = true) (ka : a.kind = 2) (kb : b.kind = 2) : cmpT 5 a b = cmpI a.n b.n := by
  obtain ⟨a1, a2⟩ := may_num ha ka
  obtain ⟨b1, b2⟩ := may_num hb kb
  have hs : cmpS (⟨#[]⟩ : ByteArray) ⟨#[]⟩ = 0 := (cmpS_zero _ _).2 rfl
  have hi : cmpI 2 2 = 0 := (cmpI_zero _ _).2 rfl
  have hj : cmpI (0 : Nat) (0 : Nat) = 0 := (cmpI_zero _ _).2 rfl
  rw [cmpT, a1, a2, b1, b2, ka, kb, hs, hi, List.length_nil, hj]
  simp only [orL, cmpL]
  split <;> simp_all
/-- What guard compares is the page's. -/
theorem guard_page (kind : Int) (a b : Tm) (h : 1 ≤ kind ∧ kind ≤ 4) (ha : mayT a = true) (hb : mayT b = true) (ga : groundB a = true) (gb : groundB b = true) :
    guardE kind a b = (if pageOk kind a b = true then 0 else 3) ∧ guardC kind a b = (pageOk kind a b && pageC kind a b) := by
  have hz := cmpT_zero 5 a b (mayT_dle ha).1
  have e1 : guardE kind a b = (if pageOk kind a b = true then 0 else 3) := by
    rw [guardE, if_neg (by simp only [ha, hb, ga, gb]; simp; omega), pageOk]
    simp only [decide_eq_true_eq]
    split <;> split <;> first | rfl | omega
  refine ⟨e1, ?_⟩
  rw [guardC, e1]
  by_cases hp : pageOk kind a b = true
  · rw [if_pos hp, hp]
    simp only [pageOk, decide_eq_true_eq] at hp
    have e : knownC kind a b = pageC kind a b := by
      rw [knownC, pageC]
      by_cases k3 : kind = 3
      · rw [if_neg (by omega), if_pos k3]
        rw [Bool.eq_iff_iff]; simp [k3, hz]
      by_cases k4 : kind = 4
      · rw [if_neg (by omega), if_neg k3, if_pos k4]
        rw [Bool.eq_iff_iff]; simp [k4, hz]
      have hk : a.kind = 2 ∧ b.kind = 2 := by rcases hp with h | h | h <;> first | exact h | omega
      rw [if_pos (by omega), if_neg (by omega), if_neg k3, if_neg k4, if_neg (by omega), cmpT_num ha hb hk.1 hk.2]
      by_cases k1 : kind = 1
      · rw [if_pos k1]; simp only [k1, cmpI]
        rw [Bool.eq_iff_iff]; simp; split <;> (try split) <;> omega
      · have k2 : kind = 2 := by omega
        rw [if_neg k1]; simp only [k2, cmpI]
        rw [Bool.eq_iff_iff]; simp; split <;> (try split) <;> omega
    rw [e]; rfl
  · rw [if_neg hp]
    simp only [Bool.not_eq_true] at hp
    rw [hp]; rfl
end Go.Proofs.Ytdecgkhdbfgldaa
