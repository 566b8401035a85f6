/- Part 9 of the proof: Fl, Fm, Fn, Fo, Fq, Fr, Fs, Ft, Fv, Fx, Fy, Fz, Ga, Gb, Hb, Gc, Gd, Rdb, Gf, Gj, He. -/
import Derived.Test.YtdecgkhdbfgldaaGreatE8
set_option linter.unusedVariables false
set_option linter.unusedSimpArgs false
set_option maxRecDepth 8000
namespace Go.Proofs.YtdecgkhdbfgldaaGreat
open Go
abbrev spA (f : Ft) : AV := .agg (lift false (spD f))
def spanB (f : Ft) : Bool := decide (-1073741824 ≤ f.fr ∧ f.fr ≤ f.to ∧ f.to ≤ 1073741824)
theorem spanMay_ok (f : Ft) : PF 187 [spA f] (bv (spanB f)) := by
  refine AC_intro Tryz.func187 rfl Tryz.ntmps187 (Nat.le_of_ble_eq_true rfl) fun c hL hQ hDD => ?_; refine awp_seq ?_; refine awp_region ?_; refine awps_stp1 rfl rfl (by decide) (stp_box 1 rfl rfl rfl) rfl ?_; refine awps_stp0 rfl rfl (by decide) (stp_move (.inr rfl) rfl) ?_; refine awps_nil ?_; refine thenQ_nil ?_; refine awp_seq ?_; refine awp_region ?_; refine awps_stp0 rfl rfl (by decide) (stp_fieldAddr rfl fo_api_Span_0 rfl) ?_; refine awps_stp0 rfl rfl (by decide) (stp_load rfl tf_int rfl rfl rfl rfl rfl) ?_
  refine awps_stp0 rfl rfl (by decide) (stp_binI rfl rfl rfl rfl) ?_; refine awps_stp0 rfl rfl (by decide) (stp_move (.inl rfl) rfl) ?_; refine awps_split 6 rfl (fun g6 => ?_) (fun g6 => ?_)
  · try simp only [↓cqA, cqB] at g6
    refine awps_g0 rfl rfl rfl (by decide) rfl (by decide) (stp_fieldAddr rfl fo_api_Span_0 rfl) ?_; refine awps_g0 rfl rfl rfl (by decide) rfl (by decide) (stp_load rfl tf_int rfl rfl rfl rfl rfl) ?_; refine awps_g0 rfl rfl rfl (by decide) rfl (by decide) (stp_fieldAddr rfl fo_api_Span_1 rfl) ?_; refine awps_g0 rfl rfl rfl (by decide) rfl (by decide) (stp_load rfl tf_int rfl rfl rfl rfl rfl) ?_
    refine awps_g0 rfl rfl rfl (by decide) rfl (by decide) (stp_binI rfl rfl rfl rfl) ?_; refine awps_stp0 rfl rfl (by decide) (stp_pick rfl rfl rfl) ?_; refine awps_stp0 rfl rfl (by decide) (stp_move (.inl rfl) rfl) ?_; refine awps_split 13 rfl (fun g13 => ?_) (fun g13 => ?_)
    · try simp only [↓cqA, cqB] at g13
      refine awps_g0 rfl rfl rfl (by decide) rfl (by decide) (stp_fieldAddr rfl fo_api_Span_1 rfl) ?_; refine awps_g0 rfl rfl rfl (by decide) rfl (by decide) (stp_load rfl tf_int rfl rfl rfl rfl rfl) ?_; refine awps_g0 rfl rfl rfl (by decide) rfl (by decide) (stp_binI rfl rfl rfl rfl) ?_; refine awps_stp0 rfl rfl (by decide) (stp_pick rfl rfl rfl) ?_; refine awps_stp0 rfl rfl (by decide) (stp_move (.inr rfl) rfl) ?_; refine awps_nil ?_; refine thenQ_nil ?_; refine awp_ret ?_
      -- leaf g6Tg13T
      refine ret0 (noL hL) (.inl rfl) (resAs_tmp rfl (resAs_nil)) ?_ ?_
      · rfl
      refine ⟨bool_w ?_, rfl⟩
      rw [Bool.eq_iff_iff]; simp [spanB]; try omega
    try simp only [↓cqA, cqB] at g13
    refine awps_gs rfl rfl rfl rfl (by decide) rfl (by decide) ?_; refine awps_gs rfl rfl rfl rfl (by decide) rfl (by decide) ?_; refine awps_gs rfl rfl rfl rfl (by decide) rfl (by decide) ?_; refine awps_stp0 rfl rfl (by decide) (stp_pick rfl rfl rfl) ?_; refine awps_stp0 rfl rfl (by decide) (stp_move (.inr rfl) rfl) ?_; refine awps_nil ?_; refine thenQ_nil ?_; refine awp_ret ?_
    -- leaf g6Tg13F
    refine ret0 (noL hL) (.inl rfl) (resAs_tmp rfl (resAs_nil)) ?_ ?_
    · rfl
    refine ⟨bool_w ?_, rfl⟩
    rw [Bool.eq_iff_iff]; simp [spanB]; try omega
  try simp only [↓cqA, cqB] at g6
  refine awps_gs rfl rfl rfl rfl (by decide) rfl (by decide) ?_; refine awps_gs rfl rfl rfl rfl (by decide) rfl (by decide) ?_; refine awps_gs rfl rfl rfl rfl (by decide) rfl (by decide) ?_; refine awps_gs rfl rfl rfl rfl (by decide) rfl (by decide) ?_; refine awps_gs rfl rfl rfl rfl (by decide) rfl (by decide) ?_; refine awps_stp0 rfl rfl (by decide) (stp_pick rfl rfl rfl) ?_
  refine awps_stp0 rfl rfl (by decide) (stp_move (.inl rfl) rfl) ?_; refine awps_gs rfl rfl rfl rfl (by decide) rfl (by decide) ?_; refine awps_gs rfl rfl rfl rfl (by decide) rfl (by decide) ?_; refine awps_gs rfl rfl rfl rfl (by decide) rfl (by decide) ?_; refine awps_stp0 rfl rfl (by decide) (stp_pick rfl rfl rfl) ?_; refine awps_stp0 rfl rfl (by decide) (stp_move (.inr rfl) rfl) ?_; refine awps_nil ?_; refine thenQ_nil ?_; refine awp_ret ?_
  -- leaf g6F
  refine ret0 (noL hL) (.inl rfl) (resAs_tmp rfl (resAs_nil)) ?_ ?_
  · rfl
  refine ⟨bool_w ?_, rfl⟩
  rw [Bool.eq_iff_iff]; simp [spanB]; try omega
theorem rSpan_ok (f : Ft) : PF 123 [spA f] (bv (spanB f)) := by
  refine AC_intro Tryz.func123 rfl Tryz.ntmps123 (Nat.le_of_ble_eq_true rfl) fun c hL hQ hDD => ?_; refine awp_seq ?_; refine awp_region ?_; refine awps_stp1 rfl rfl (by decide) (stp_box 1 rfl rfl rfl) rfl ?_; refine awps_stp0 rfl rfl (by decide) (stp_move (.inr rfl) rfl) ?_; refine awps_nil ?_; refine thenQ_nil ?_; refine awp_seq ?_; refine awp_region ?_; refine awps_stp0 rfl rfl (by decide) (stp_fieldAddr rfl fo_api_Span_0 rfl) ?_; refine awps_stp0 rfl rfl (by decide) (stp_load rfl tf_int rfl rfl rfl rfl rfl) ?_
  refine awps_stp0 rfl rfl (by decide) (stp_binI rfl rfl rfl rfl) ?_; refine awps_stp0 rfl rfl (by decide) (stp_move (.inl rfl) rfl) ?_; refine awps_split 6 rfl (fun g6 => ?_) (fun g6 => ?_)
  · try simp only [↓cqA, cqB] at g6
    refine awps_g0 rfl rfl rfl (by decide) rfl (by decide) (stp_fieldAddr rfl fo_api_Span_0 rfl) ?_; refine awps_g0 rfl rfl rfl (by decide) rfl (by decide) (stp_load rfl tf_int rfl rfl rfl rfl rfl) ?_; refine awps_g0 rfl rfl rfl (by decide) rfl (by decide) (stp_fieldAddr rfl fo_api_Span_1 rfl) ?_; refine awps_g0 rfl rfl rfl (by decide) rfl (by decide) (stp_load rfl tf_int rfl rfl rfl rfl rfl) ?_
    refine awps_g0 rfl rfl rfl (by decide) rfl (by decide) (stp_binI rfl rfl rfl rfl) ?_; refine awps_stp0 rfl rfl (by decide) (stp_pick rfl rfl rfl) ?_; refine awps_stp0 rfl rfl (by decide) (stp_move (.inl rfl) rfl) ?_; refine awps_split 13 rfl (fun g13 => ?_) (fun g13 => ?_)
    · try simp only [↓cqA, cqB] at g13
      refine awps_g0 rfl rfl rfl (by decide) rfl (by decide) (stp_fieldAddr rfl fo_api_Span_1 rfl) ?_; refine awps_g0 rfl rfl rfl (by decide) rfl (by decide) (stp_load rfl tf_int rfl rfl rfl rfl rfl) ?_; refine awps_g0 rfl rfl rfl (by decide) rfl (by decide) (stp_binI rfl rfl rfl rfl) ?_; refine awps_stp0 rfl rfl (by decide) (stp_pick rfl rfl rfl) ?_; refine awps_stp0 rfl rfl (by decide) (stp_move (.inr rfl) rfl) ?_; refine awps_nil ?_; refine thenQ_nil ?_; refine awp_ret ?_
      -- leaf g6Tg13T
      refine ret0 (noL hL) (.inl rfl) (resAs_tmp rfl (resAs_nil)) ?_ ?_
      · rfl
      refine ⟨bool_w ?_, rfl⟩
      rw [Bool.eq_iff_iff]; simp [spanB]; try omega
    try simp only [↓cqA, cqB] at g13
    refine awps_gs rfl rfl rfl rfl (by decide) rfl (by decide) ?_; refine awps_gs rfl rfl rfl rfl (by decide) rfl (by decide) ?_; refine awps_gs rfl rfl rfl rfl (by decide) rfl (by decide) ?_; refine awps_stp0 rfl rfl (by decide) (stp_pick rfl rfl rfl) ?_; refine awps_stp0 rfl rfl (by decide) (stp_move (.inr rfl) rfl) ?_; refine awps_nil ?_; refine thenQ_nil ?_; refine awp_ret ?_
    -- leaf g6Tg13F
    refine ret0 (noL hL) (.inl rfl) (resAs_tmp rfl (resAs_nil)) ?_ ?_
    · rfl
    refine ⟨bool_w ?_, rfl⟩
    rw [Bool.eq_iff_iff]; simp [spanB]; try omega
  try simp only [↓cqA, cqB] at g6
  refine awps_gs rfl rfl rfl rfl (by decide) rfl (by decide) ?_; refine awps_gs rfl rfl rfl rfl (by decide) rfl (by decide) ?_; refine awps_gs rfl rfl rfl rfl (by decide) rfl (by decide) ?_; refine awps_gs rfl rfl rfl rfl (by decide) rfl (by decide) ?_; refine awps_gs rfl rfl rfl rfl (by decide) rfl (by decide) ?_; refine awps_stp0 rfl rfl (by decide) (stp_pick rfl rfl rfl) ?_
  refine awps_stp0 rfl rfl (by decide) (stp_move (.inl rfl) rfl) ?_; refine awps_gs rfl rfl rfl rfl (by decide) rfl (by decide) ?_; refine awps_gs rfl rfl rfl rfl (by decide) rfl (by decide) ?_; refine awps_gs rfl rfl rfl rfl (by decide) rfl (by decide) ?_; refine awps_stp0 rfl rfl (by decide) (stp_pick rfl rfl rfl) ?_; refine awps_stp0 rfl rfl (by decide) (stp_move (.inr rfl) rfl) ?_; refine awps_nil ?_; refine thenQ_nil ?_; refine awp_ret ?_
  -- leaf g6F
  refine ret0 (noL hL) (.inl rfl) (resAs_tmp rfl (resAs_nil)) ?_ ?_
  · rfl
  refine ⟨bool_w ?_, rfl⟩
  rw [Bool.eq_iff_iff]; simp [spanB]; try omega
def factB (f : Ft) : Bool := decide (f.t.kind = 3) && mayT f.t && groundB f.t && spanB f
theorem factsIs_ok (f : Ft) (hf : f.wf) : PF 124 [ftA f] (bv (factB f)) := by
  have ht := hf.1
  refine AC_intro Tryz.func124 rfl Tryz.ntmps124 (Nat.le_of_ble_eq_true rfl) fun c hL hQ hDD => ?_; refine awp_seq ?_; refine awp_region ?_; refine awps_stp1 rfl rfl (by decide) (stp_box 1 rfl rfl rfl) rfl ?_; refine awps_stp0 rfl rfl (by decide) (stp_move (.inr rfl) rfl) ?_; refine awps_nil ?_; refine thenQ_nil ?_; refine awp_seq ?_; refine awp_region ?_; refine awps_stp0 rfl rfl (by decide) (stp_fieldAddr rfl fo_api_Fact_0 rfl) ?_; refine awps_stp0 rfl rfl (by decide) (stp_fieldAddr rfl fo_api_Term_0 rfl) ?_; refine awps_stp0 rfl rfl (by decide) (stp_load rfl tf_int rfl rfl rfl rfl rfl) ?_
  refine awps_stp0 rfl rfl (by decide) (stp_binI rfl rfl rfl rfl) ?_; refine awps_stp0 rfl rfl (by decide) (stp_move (.inl rfl) rfl) ?_; refine awps_split 7 rfl (fun g7 => ?_) (fun g7 => ?_)
  · try simp only [↓cqA, cqB] at g7
    refine awps_g0 rfl rfl rfl (by decide) rfl (by decide) (stp_fieldAddr rfl fo_api_Fact_0 rfl) ?_; refine awps_g0 rfl rfl rfl (by decide) rfl (by decide) (stp_load rfl tf_api_Term rfl rfl rfl rfl rfl) ?_; refine awps_g0 rfl rfl rfl (by decide) rfl (by decide) (stp_call (avs := [_]) true rfl en_term_May rfl rfl (May_ok f.t ht) (fun _ => rfl) rfl) ?_; refine awps_stp0 rfl rfl (by decide) (stp_pick rfl rfl rfl) ?_; refine awps_stp0 rfl rfl (by decide) (stp_move (.inl rfl) rfl) ?_; refine awps_split 12 rfl (fun g12 => ?_) (fun g12 => ?_)
    · try simp only [↓cqA, cqB] at g12
      refine awps_g0 rfl rfl rfl (by decide) rfl (by decide) (stp_fieldAddr rfl fo_api_Fact_0 rfl) ?_; refine awps_g0 rfl rfl rfl (by decide) rfl (by decide) (stp_load rfl tf_api_Term rfl rfl rfl rfl rfl) ?_; refine awps_g0 rfl rfl rfl (by decide) rfl (by decide) (stp_call (avs := [_]) true rfl en_term_Is rfl rfl (Is_ok f.t ht (by assumption)) (fun _ => rfl) rfl) ?_; refine awps_stp0 rfl rfl (by decide) (stp_pick rfl rfl rfl) ?_; refine awps_stp0 rfl rfl (by decide) (stp_move (.inl rfl) rfl) ?_; refine awps_split 17 rfl (fun g17 => ?_) (fun g17 => ?_)
      · try simp only [↓cqA, cqB] at g17
        refine awps_g0 rfl rfl rfl (by decide) rfl (by decide) (stp_fieldAddr rfl fo_api_Fact_1 rfl) ?_; refine awps_g0 rfl rfl rfl (by decide) rfl (by decide) (stp_load rfl tf_api_Span rfl rfl rfl rfl rfl) ?_; refine awps_g0 rfl rfl rfl (by decide) rfl (by decide) (stp_call (avs := [_]) true rfl en_span_May rfl rfl (spanMay_ok f) (fun _ => rfl) rfl) ?_; refine awps_stp0 rfl rfl (by decide) (stp_pick rfl rfl rfl) ?_; refine awps_stp0 rfl rfl (by decide) (stp_move (.inr rfl) rfl) ?_; refine awps_nil ?_; refine thenQ_nil ?_; refine awp_ret ?_
        -- leaf g7Tg12Tg17T
        refine ret0 (noL hL) (.inl rfl) (resAs_tmp rfl (resAs_nil)) ?_ ?_
        · rfl
        refine ⟨bool_w ?_, rfl⟩
        simp_all [factB]
      try simp only [↓cqA, cqB] at g17
      refine awps_gs rfl rfl rfl rfl (by decide) rfl (by decide) ?_; refine awps_gs rfl rfl rfl rfl (by decide) rfl (by decide) ?_; refine awps_gs rfl rfl rfl rfl (by decide) rfl (by decide) ?_; refine awps_stp0 rfl rfl (by decide) (stp_pick rfl rfl rfl) ?_; refine awps_stp0 rfl rfl (by decide) (stp_move (.inr rfl) rfl) ?_; refine awps_nil ?_; refine thenQ_nil ?_; refine awp_ret ?_
      -- leaf g7Tg12Tg17F
      refine ret0 (noL hL) (.inl rfl) (resAs_tmp rfl (resAs_nil)) ?_ ?_
      · rfl
      refine ⟨bool_w ?_, rfl⟩
      simp_all [factB]
    try simp only [↓cqA, cqB] at g12
    refine awps_gs rfl rfl rfl rfl (by decide) rfl (by decide) ?_; refine awps_gs rfl rfl rfl rfl (by decide) rfl (by decide) ?_; refine awps_gs rfl rfl rfl rfl (by decide) rfl (by decide) ?_; refine awps_stp0 rfl rfl (by decide) (stp_pick rfl rfl rfl) ?_; refine awps_stp0 rfl rfl (by decide) (stp_move (.inl rfl) rfl) ?_; refine awps_gs rfl rfl rfl rfl (by decide) rfl (by decide) ?_
    refine awps_gs rfl rfl rfl rfl (by decide) rfl (by decide) ?_; refine awps_gs rfl rfl rfl rfl (by decide) rfl (by decide) ?_; refine awps_stp0 rfl rfl (by decide) (stp_pick rfl rfl rfl) ?_; refine awps_stp0 rfl rfl (by decide) (stp_move (.inr rfl) rfl) ?_; refine awps_nil ?_; refine thenQ_nil ?_; refine awp_ret ?_
    -- leaf g7Tg12F
    refine ret0 (noL hL) (.inl rfl) (resAs_tmp rfl (resAs_nil)) ?_ ?_
    · rfl
    refine ⟨bool_w ?_, rfl⟩
    simp_all [factB]
  try simp only [↓cqA, cqB] at g7
  refine awps_gs rfl rfl rfl rfl (by decide) rfl (by decide) ?_; refine awps_gs rfl rfl rfl rfl (by decide) rfl (by decide) ?_; refine awps_gs rfl rfl rfl rfl (by decide) rfl (by decide) ?_; refine awps_stp0 rfl rfl (by decide) (stp_pick rfl rfl rfl) ?_; refine awps_stp0 rfl rfl (by decide) (stp_move (.inl rfl) rfl) ?_; refine awps_gs rfl rfl rfl rfl (by decide) rfl (by decide) ?_
  refine awps_gs rfl rfl rfl rfl (by decide) rfl (by decide) ?_; refine awps_gs rfl rfl rfl rfl (by decide) rfl (by decide) ?_; refine awps_stp0 rfl rfl (by decide) (stp_pick rfl rfl rfl) ?_; refine awps_stp0 rfl rfl (by decide) (stp_move (.inl rfl) rfl) ?_; refine awps_gs rfl rfl rfl rfl (by decide) rfl (by decide) ?_; refine awps_gs rfl rfl rfl rfl (by decide) rfl (by decide) ?_
  refine awps_gs rfl rfl rfl rfl (by decide) rfl (by decide) ?_; refine awps_stp0 rfl rfl (by decide) (stp_pick rfl rfl rfl) ?_; refine awps_stp0 rfl rfl (by decide) (stp_move (.inr rfl) rfl) ?_; refine awps_nil ?_; refine thenQ_nil ?_; refine awp_ret ?_
  -- leaf g7F
  refine ret0 (noL hL) (.inl rfl) (resAs_tmp rfl (resAs_nil)) ?_ ?_
  · rfl
  refine ⟨bool_w ?_, rfl⟩
  simp_all [factB]
theorem rFact_ok (f : Ft) (hf : f.wf) : PF 52 [ftA f] (bv (factB f)) := by
  have ht := hf.1
  refine AC_intro Tryz.func52 rfl Tryz.ntmps52 (Nat.le_of_ble_eq_true rfl) fun c hL hQ hDD => ?_; refine awp_seq ?_; refine awp_region ?_; refine awps_stp1 rfl rfl (by decide) (stp_box 1 rfl rfl rfl) rfl ?_; refine awps_stp0 rfl rfl (by decide) (stp_move (.inr rfl) rfl) ?_; refine awps_nil ?_; refine thenQ_nil ?_; refine awp_seq ?_; refine awp_region ?_; refine awps_stp0 rfl rfl (by decide) (stp_fieldAddr rfl fo_api_Fact_0 rfl) ?_; refine awps_stp0 rfl rfl (by decide) (stp_fieldAddr rfl fo_api_Term_0 rfl) ?_; refine awps_stp0 rfl rfl (by decide) (stp_load rfl tf_int rfl rfl rfl rfl rfl) ?_
  refine awps_stp0 rfl rfl (by decide) (stp_binI rfl rfl rfl rfl) ?_; refine awps_stp0 rfl rfl (by decide) (stp_move (.inl rfl) rfl) ?_; refine awps_split 7 rfl (fun g7 => ?_) (fun g7 => ?_)
  · try simp only [↓cqA, cqB] at g7
    refine awps_g0 rfl rfl rfl (by decide) rfl (by decide) (stp_fieldAddr rfl fo_api_Fact_0 rfl) ?_; refine awps_g0 rfl rfl rfl (by decide) rfl (by decide) (stp_load rfl tf_api_Term rfl rfl rfl rfl rfl) ?_; refine awps_g0 rfl rfl rfl (by decide) rfl (by decide) (stp_call (avs := [_]) true rfl en_almagestref1_Term rfl rfl (rTerm_ok f.t ht) (fun _ => rfl) rfl) ?_; refine awps_stp0 rfl rfl (by decide) (stp_pick rfl rfl rfl) ?_; refine awps_stp0 rfl rfl (by decide) (stp_move (.inl rfl) rfl) ?_; refine awps_split 12 rfl (fun g12 => ?_) (fun g12 => ?_)
    · try simp only [↓cqA, cqB] at g12
      refine awps_g0 rfl rfl rfl (by decide) rfl (by decide) (stp_fieldAddr rfl fo_api_Fact_0 rfl) ?_; refine awps_g0 rfl rfl rfl (by decide) rfl (by decide) (stp_load rfl tf_api_Term rfl rfl rfl rfl rfl) ?_; refine awps_g0 rfl rfl rfl (by decide) rfl (by decide) (stp_call (avs := [_]) true rfl en_almagestref1_Ground rfl rfl (rGround_ok f.t ht (by assumption)) (fun _ => rfl) rfl) ?_; refine awps_stp0 rfl rfl (by decide) (stp_pick rfl rfl rfl) ?_; refine awps_stp0 rfl rfl (by decide) (stp_move (.inl rfl) rfl) ?_; refine awps_split 17 rfl (fun g17 => ?_) (fun g17 => ?_)
      · try simp only [↓cqA, cqB] at g17
        refine awps_g0 rfl rfl rfl (by decide) rfl (by decide) (stp_fieldAddr rfl fo_api_Fact_1 rfl) ?_; refine awps_g0 rfl rfl rfl (by decide) rfl (by decide) (stp_load rfl tf_api_Span rfl rfl rfl rfl rfl) ?_; refine awps_g0 rfl rfl rfl (by decide) rfl (by decide) (stp_call (avs := [_]) true rfl en_almagestref7_Span rfl rfl (rSpan_ok f) (fun _ => rfl) rfl) ?_; refine awps_stp0 rfl rfl (by decide) (stp_pick rfl rfl rfl) ?_; refine awps_stp0 rfl rfl (by decide) (stp_move (.inr rfl) rfl) ?_; refine awps_nil ?_; refine thenQ_nil ?_; refine awp_ret ?_
        -- leaf g7Tg12Tg17T
        refine ret0 (noL hL) (.inl rfl) (resAs_tmp rfl (resAs_nil)) ?_ ?_
        · rfl
        refine ⟨bool_w ?_, rfl⟩
        simp_all [factB]
      try simp only [↓cqA, cqB] at g17
      refine awps_gs rfl rfl rfl rfl (by decide) rfl (by decide) ?_; refine awps_gs rfl rfl rfl rfl (by decide) rfl (by decide) ?_; refine awps_gs rfl rfl rfl rfl (by decide) rfl (by decide) ?_; refine awps_stp0 rfl rfl (by decide) (stp_pick rfl rfl rfl) ?_; refine awps_stp0 rfl rfl (by decide) (stp_move (.inr rfl) rfl) ?_; refine awps_nil ?_; refine thenQ_nil ?_; refine awp_ret ?_
      -- leaf g7Tg12Tg17F
      refine ret0 (noL hL) (.inl rfl) (resAs_tmp rfl (resAs_nil)) ?_ ?_
      · rfl
      refine ⟨bool_w ?_, rfl⟩
      simp_all [factB]
    try simp only [↓cqA, cqB] at g12
    refine awps_gs rfl rfl rfl rfl (by decide) rfl (by decide) ?_; refine awps_gs rfl rfl rfl rfl (by decide) rfl (by decide) ?_; refine awps_gs rfl rfl rfl rfl (by decide) rfl (by decide) ?_; refine awps_stp0 rfl rfl (by decide) (stp_pick rfl rfl rfl) ?_; refine awps_stp0 rfl rfl (by decide) (stp_move (.inl rfl) rfl) ?_; refine awps_gs rfl rfl rfl rfl (by decide) rfl (by decide) ?_
    refine awps_gs rfl rfl rfl rfl (by decide) rfl (by decide) ?_; refine awps_gs rfl rfl rfl rfl (by decide) rfl (by decide) ?_; refine awps_stp0 rfl rfl (by decide) (stp_pick rfl rfl rfl) ?_; refine awps_stp0 rfl rfl (by decide) (stp_move (.inr rfl) rfl) ?_; refine awps_nil ?_; refine thenQ_nil ?_; refine awp_ret ?_
    -- leaf g7Tg12F
    refine ret0 (noL hL) (.inl rfl) (resAs_tmp rfl (resAs_nil)) ?_ ?_
    · rfl
    refine ⟨bool_w ?_, rfl⟩
    simp_all [factB]
  try simp only [↓cqA, cqB] at g7
  refine awps_gs rfl rfl rfl rfl (by decide) rfl (by decide) ?_; refine awps_gs rfl rfl rfl rfl (by decide) rfl (by decide) ?_; refine awps_gs rfl rfl rfl rfl (by decide) rfl (by decide) ?_; refine awps_stp0 rfl rfl (by decide) (stp_pick rfl rfl rfl) ?_; refine awps_stp0 rfl rfl (by decide) (stp_move (.inl rfl) rfl) ?_; refine awps_gs rfl rfl rfl rfl (by decide) rfl (by decide) ?_
  refine awps_gs rfl rfl rfl rfl (by decide) rfl (by decide) ?_; refine awps_gs rfl rfl rfl rfl (by decide) rfl (by decide) ?_; refine awps_stp0 rfl rfl (by decide) (stp_pick rfl rfl rfl) ?_; refine awps_stp0 rfl rfl (by decide) (stp_move (.inl rfl) rfl) ?_; refine awps_gs rfl rfl rfl rfl (by decide) rfl (by decide) ?_; refine awps_gs rfl rfl rfl rfl (by decide) rfl (by decide) ?_
  refine awps_gs rfl rfl rfl rfl (by decide) rfl (by decide) ?_; refine awps_stp0 rfl rfl (by decide) (stp_pick rfl rfl rfl) ?_; refine awps_stp0 rfl rfl (by decide) (stp_move (.inr rfl) rfl) ?_; refine awps_nil ?_; refine thenQ_nil ?_; refine awp_ret ?_
  -- leaf g7F
  refine ret0 (noL hL) (.inl rfl) (resAs_tmp rfl (resAs_nil)) ?_ ?_
  · rfl
  refine ⟨bool_w ?_, rfl⟩
  simp_all [factB]
def cmpF (a b : Ft) : Int := orL [cmpT 5 a.t b.t, cmpI a.fr b.fr, cmpI a.to b.to]
theorem factsCompare_ok (a b : Ft) (hd : dle 5 a.t) (ha : a.wf) (hb : b.wf) : PFm 121 [ftA a, ftA b] (iv (cmpF a b)) := by
  refine AC_intro Tryz.func121 rfl Tryz.ntmps121 (Nat.le_of_ble_eq_true rfl) fun c hL hQ hDD => ?_; refine awp_seq ?_; refine awp_region ?_; refine awps_stp1 rfl rfl (by decide) (stp_box 2 rfl rfl rfl) rfl ?_; refine awps_stp1 rfl rfl (by decide) (stp_box 3 rfl rfl rfl) rfl ?_; refine awps_stp0 rfl rfl (by decide) (stp_move (.inr rfl) rfl) ?_; refine awps_nil ?_; refine thenQ_nil ?_; refine awp_seq ?_; refine awp_drawG 18 mixed rfl rfl rfl rfl ?_; refine MGo_c0 rfl (by decide) (.run rfl (stp_fieldAddr rfl fo_api_Fact_0 rfl)) ?_
  refine MGo_c0 rfl (by decide) (.run rfl (stp_load rfl tf_api_Term rfl rfl rfl rfl rfl)) ?_; refine MGo_c0 rfl (by decide) (.run rfl (stp_fieldAddr rfl fo_api_Fact_0 rfl)) ?_; refine MGo_c0 rfl (by decide) (.run rfl (stp_load rfl tf_api_Term rfl rfl rfl rfl rfl)) ?_; refine MGo_c0 rfl (by decide) (.run rfl (stp_call (avs := [_, _]) true rfl en_term_Compare rfl rfl (Compare_ok 5 a.t b.t hd ha.1 hb.1) (fun _ => rfl) rfl)) ?_; refine MGo_c0 rfl (by decide) (.run rfl (stp_fieldAddr rfl fo_api_Fact_1 rfl)) ?_; refine MGo_c0 rfl (by decide) (.run rfl (stp_fieldAddr rfl fo_api_Span_0 rfl)) ?_
  refine MGo_c0 rfl (by decide) (.run rfl (stp_load rfl tf_int rfl rfl rfl rfl rfl)) ?_; refine MGo_c0 rfl (by decide) (.run rfl (stp_fieldAddr rfl fo_api_Fact_1 rfl)) ?_; refine MGo_c0 rfl (by decide) (.run rfl (stp_fieldAddr rfl fo_api_Span_0 rfl)) ?_; refine MGo_c0 rfl (by decide) (.run rfl (stp_load rfl tf_int rfl rfl rfl rfl rfl)) ?_; refine MGo_c0 rfl (by decide) (.run rfl (stp_call (avs := [_, _]) true rfl en_cmp_Compare_int rfl rfl (cmpInt_ok _ _) (fun _ => rfl) rfl)) ?_; refine MGo_c0 rfl (by decide) (.run rfl (stp_fieldAddr rfl fo_api_Fact_1 rfl)) ?_
  refine MGo_c0 rfl (by decide) (.run rfl (stp_fieldAddr rfl fo_api_Span_1 rfl)) ?_; refine MGo_c0 rfl (by decide) (.run rfl (stp_load rfl tf_int rfl rfl rfl rfl rfl)) ?_; refine MGo_c0 rfl (by decide) (.run rfl (stp_fieldAddr rfl fo_api_Fact_1 rfl)) ?_; refine MGo_c0 rfl (by decide) (.run rfl (stp_fieldAddr rfl fo_api_Span_1 rfl)) ?_; refine MGo_c0 rfl (by decide) (.run rfl (stp_load rfl tf_int rfl rfl rfl rfl rfl)) ?_
  refine MGo_nil ⟨rfl, rfl, ?_⟩; refine awps_call (avs := [_, _]) true rfl rfl rfl (by decide) en_cmp_Compare_int rfl rfl (cmpInt_ok _ _) rfl rfl ?_; refine awps_stp1 rfl rfl (by decide) (stp_buildSlice 24 rfl sl_S_int zv_int rfl rfl (by decide) (by decide) (by decide) rfl rfl rfl) rfl ?_; refine awps_rowd 24 false 3 rfl rfl rfl rfl ?_
  refine awps_call (avs := [_]) true rfl rfl rfl (by decide) en_cmp_Or_int rfl rfl (cmpOr_ok [cmpT 5 a.t b.t, cmpI a.fr b.fr, cmpI a.to b.to] (by simp)) rfl rfl ?_; refine awps_stp0 rfl rfl (by decide) (stp_move (.inr rfl) rfl) ?_; refine awps_nil ?_; refine thenQ_nil ?_; refine awp_ret ?_
  -- leaf 
  refine ret0 (noL hL) (.inl rfl) (resAs_tmp rfl (resAs_nil)) ?_ ?_
  · rfl
  exact ⟨rfl, rfl⟩
theorem factB_may {f : Ft} (h : factB f = true) : mayT f.t = true := by
  simp only [factB, Bool.and_eq_true] at h; exact h.1.1.2
theorem r7sign_ok (x y : Int) : PF 236 [iv x, iv y] (iv (cmpI x y)) := by
  refine AC_intro Tryz.func236 rfl Tryz.ntmps236 (Nat.le_of_ble_eq_true rfl) fun c hL hQ hDD => ?_; refine awp_seq ?_; refine awp_region ?_; refine awps_stp0 rfl rfl (by decide) (stp_move (.inr rfl) rfl) ?_; refine awps_nil ?_; refine thenQ_nil ?_; refine awp_seq ?_; refine awp_block ?_; refine awp_seq ?_; refine awp_region ?_; refine awps_stp0 rfl rfl (by decide) (stp_move (.inl rfl) rfl) ?_
  refine awps_stp0 rfl rfl (by decide) (stp_move (.inl rfl) rfl) ?_; refine awps_stp0 rfl rfl (by decide) (stp_binI rfl rfl rfl rfl) ?_; refine awps_stp0 rfl rfl (by decide) (stp_move (.inr rfl) rfl) ?_; refine awps_nil ?_; refine thenQ_nil ?_; refine awp_cond rfl (fun c0 => ?_) (fun c0 => ?_)
  · try simp only [↓cqA, cqB] at c0
    refine awp_seq ?_; refine awp_region ?_; refine awps_stp0 rfl rfl (by decide) (stp_move (.inr rfl) rfl) ?_; refine awps_nil ?_; refine thenQ_nil ?_; refine awp_ret ?_; refine inQ_ret (thenQ_ret (?_))
    -- leaf 0T
    refine ret0 (noL hL) (.inl rfl) (resAs_tmp rfl (resAs_nil)) ?_ ?_
    · rfl
    refine ⟨int_w ?_, rfl⟩
    simp only [cmpI]; split <;> (try split) <;> omega
  try simp only [↓cqA, cqB] at c0
  refine awp_seq ?_; refine awp_region ?_; refine awps_stp0 rfl rfl (by decide) (stp_move (.inl rfl) rfl) ?_; refine awps_stp0 rfl rfl (by decide) (stp_move (.inl rfl) rfl) ?_; refine awps_stp0 rfl rfl (by decide) (stp_binI rfl rfl rfl rfl) ?_; refine awps_stp0 rfl rfl (by decide) (stp_move (.inr rfl) rfl) ?_; refine awps_nil ?_; refine thenQ_nil ?_; refine awp_cond rfl (fun c1 => ?_) (fun c1 => ?_)
  · try simp only [↓cqA, cqB] at c1
    refine awp_seq ?_; refine awp_region ?_; refine awps_stp0 rfl rfl (by decide) (stp_move (.inr rfl) rfl) ?_; refine awps_nil ?_; refine thenQ_nil ?_; refine awp_ret ?_; refine inQ_ret (thenQ_ret (?_))
    -- leaf 0F1T
    refine ret0 (noL hL) (.inl rfl) (resAs_tmp rfl (resAs_nil)) ?_ ?_
    · rfl
    refine ⟨int_w ?_, rfl⟩
    simp only [cmpI]; split <;> (try split) <;> omega
  try simp only [↓cqA, cqB] at c1
  refine awp_skip ?_; refine inQ_nil ?_; refine thenQ_nil ?_; refine awp_seq ?_; refine awp_region ?_; refine awps_stp0 rfl rfl (by decide) (stp_move (.inr rfl) rfl) ?_; refine awps_nil ?_; refine thenQ_nil ?_; refine awp_ret ?_
  -- leaf 0F1F
  refine ret0 (noL hL) (.inl rfl) (resAs_tmp rfl (resAs_nil)) ?_ ?_
  · rfl
  refine ⟨int_w ?_, rfl⟩
  simp only [cmpI]; split <;> (try split) <;> omega
def ordF (a b : Ft) : Int := orL [ordT 5 a.t b.t, cmpI a.fr b.fr, cmpI a.to b.to]
theorem rOrder_ok (a b : Ft) (hd : dle 5 a.t) (ha : a.wf) (hb : b.wf) : PF 185 [ftA a, ftA b] (iv (ordF a b)) := by
  refine AC_intro Tryz.func185 rfl Tryz.ntmps185 (Nat.le_of_ble_eq_true rfl) fun c hL hQ hDD => ?_; refine awp_seq ?_; refine awp_region ?_; refine awps_stp1 rfl rfl (by decide) (stp_box 2 rfl rfl rfl) rfl ?_; refine awps_stp1 rfl rfl (by decide) (stp_box 3 rfl rfl rfl) rfl ?_; refine awps_stp0 rfl rfl (by decide) (stp_move (.inr rfl) rfl) ?_; refine awps_nil ?_; refine thenQ_nil ?_; refine awp_seq ?_; refine awp_region ?_; refine awps_stp0 rfl rfl (by decide) (stp_fieldAddr rfl fo_api_Fact_0 rfl) ?_; refine awps_stp0 rfl rfl (by decide) (stp_load rfl tf_api_Term rfl rfl rfl rfl rfl) ?_
  refine awps_stp0 rfl rfl (by decide) (stp_fieldAddr rfl fo_api_Fact_0 rfl) ?_; refine awps_stp0 rfl rfl (by decide) (stp_load rfl tf_api_Term rfl rfl rfl rfl rfl) ?_; refine awps_call (avs := [_, _]) true rfl rfl rfl (by decide) en_almagestref1_Order rfl rfl (Order_ok 5 a.t b.t hd ha.1 hb.1) rfl rfl ?_; refine awps_stp0 rfl rfl (by decide) (stp_move (.inr rfl) rfl) ?_; refine awps_nil ?_; refine thenQ_nil ?_; refine awp_seq ?_; refine awp_seq ?_; refine awp_region ?_; refine awps_stp0 rfl rfl (by decide) (stp_move (.inl rfl) rfl) ?_
  refine awps_stp0 rfl rfl (by decide) (stp_binI rfl rfl rfl rfl) ?_; refine awps_nil ?_; refine thenQ_nil ?_; refine awp_cond rfl (fun c0 => ?_) (fun c0 => ?_)
  · try simp only [↓cqA, cqB] at c0
    refine awp_region ?_; refine awps_stp0 rfl rfl (by decide) (stp_fieldAddr rfl fo_api_Fact_1 rfl) ?_; refine awps_stp0 rfl rfl (by decide) (stp_fieldAddr rfl fo_api_Span_0 rfl) ?_; refine awps_stp0 rfl rfl (by decide) (stp_load rfl tf_int rfl rfl rfl rfl rfl) ?_; refine awps_stp0 rfl rfl (by decide) (stp_fieldAddr rfl fo_api_Fact_1 rfl) ?_; refine awps_stp0 rfl rfl (by decide) (stp_fieldAddr rfl fo_api_Span_0 rfl) ?_; refine awps_stp0 rfl rfl (by decide) (stp_load rfl tf_int rfl rfl rfl rfl rfl) ?_
    refine awps_call (avs := [_, _]) true rfl rfl rfl (by decide) en_almagestref7_sign rfl rfl (r7sign_ok _ _) rfl rfl ?_; refine awps_stp0 rfl rfl (by decide) (stp_move (.inr rfl) rfl) ?_; refine awps_nil ?_; refine thenQ_nil ?_; refine awp_seq ?_; refine awp_seq ?_; refine awp_region ?_; refine awps_stp0 rfl rfl (by decide) (stp_move (.inl rfl) rfl) ?_; refine awps_stp0 rfl rfl (by decide) (stp_binI rfl rfl rfl rfl) ?_; refine awps_nil ?_; refine thenQ_nil ?_; refine awp_cond rfl (fun c1 => ?_) (fun c1 => ?_)
    · try simp only [↓cqA, cqB] at c1
      refine awp_region ?_; refine awps_stp0 rfl rfl (by decide) (stp_fieldAddr rfl fo_api_Fact_1 rfl) ?_; refine awps_stp0 rfl rfl (by decide) (stp_fieldAddr rfl fo_api_Span_1 rfl) ?_; refine awps_stp0 rfl rfl (by decide) (stp_load rfl tf_int rfl rfl rfl rfl rfl) ?_; refine awps_stp0 rfl rfl (by decide) (stp_fieldAddr rfl fo_api_Fact_1 rfl) ?_; refine awps_stp0 rfl rfl (by decide) (stp_fieldAddr rfl fo_api_Span_1 rfl) ?_; refine awps_stp0 rfl rfl (by decide) (stp_load rfl tf_int rfl rfl rfl rfl rfl) ?_
      refine awps_call (avs := [_, _]) true rfl rfl rfl (by decide) en_almagestref7_sign rfl rfl (r7sign_ok _ _) rfl rfl ?_; refine awps_stp0 rfl rfl (by decide) (stp_move (.inr rfl) rfl) ?_; refine awps_nil ?_; refine thenQ_nil ?_; refine awp_seq ?_; refine awp_region ?_; refine awps_stp0 rfl rfl (by decide) (stp_move (.inl rfl) rfl) ?_; refine awps_stp0 rfl rfl (by decide) (stp_move (.inr rfl) rfl) ?_; refine awps_nil ?_; refine thenQ_nil ?_; refine awp_ret ?_
      -- leaf 0T1T
      refine ret0 (noL hL) (.inl rfl) (resAs_tmp rfl (resAs_nil)) ?_ ?_
      · rfl
      refine ⟨int_w ?_, rfl⟩
      simp_all [ordF, orL]
    try simp only [↓cqA, cqB] at c1
    refine awp_skip ?_; refine thenQ_nil ?_; refine awp_seq ?_; refine awp_region ?_; refine awps_stp0 rfl rfl (by decide) (stp_move (.inl rfl) rfl) ?_; refine awps_stp0 rfl rfl (by decide) (stp_move (.inr rfl) rfl) ?_; refine awps_nil ?_; refine thenQ_nil ?_; refine awp_ret ?_
    -- leaf 0T1F
    refine ret0 (noL hL) (.inl rfl) (resAs_tmp rfl (resAs_nil)) ?_ ?_
    · rfl
    refine ⟨int_w ?_, rfl⟩
    simp_all [ordF, orL]
  try simp only [↓cqA, cqB] at c0
  refine awp_skip ?_; refine thenQ_nil ?_; refine awp_seq ?_; refine awp_seq ?_; refine awp_region ?_; refine awps_stp0 rfl rfl (by decide) (stp_move (.inl rfl) rfl) ?_; refine awps_stp0 rfl rfl (by decide) (stp_binI rfl rfl rfl rfl) ?_; refine awps_nil ?_; refine thenQ_nil ?_; refine awp_cond rfl (fun c1 => ?_) (fun c1 => ?_)
  · try simp only [↓cqA, cqB] at c1
    refine awp_region ?_; refine awps_stp0 rfl rfl (by decide) (stp_fieldAddr rfl fo_api_Fact_1 rfl) ?_; refine awps_stp0 rfl rfl (by decide) (stp_fieldAddr rfl fo_api_Span_1 rfl) ?_; refine awps_stp0 rfl rfl (by decide) (stp_load rfl tf_int rfl rfl rfl rfl rfl) ?_; refine awps_stp0 rfl rfl (by decide) (stp_fieldAddr rfl fo_api_Fact_1 rfl) ?_; refine awps_stp0 rfl rfl (by decide) (stp_fieldAddr rfl fo_api_Span_1 rfl) ?_; refine awps_stp0 rfl rfl (by decide) (stp_load rfl tf_int rfl rfl rfl rfl rfl) ?_
    refine awps_call (avs := [_, _]) true rfl rfl rfl (by decide) en_almagestref7_sign rfl rfl (r7sign_ok _ _) rfl rfl ?_; refine awps_stp0 rfl rfl (by decide) (stp_move (.inr rfl) rfl) ?_; refine awps_nil ?_; refine thenQ_nil ?_; refine awp_seq ?_; refine awp_region ?_; refine awps_stp0 rfl rfl (by decide) (stp_move (.inl rfl) rfl) ?_; refine awps_stp0 rfl rfl (by decide) (stp_move (.inr rfl) rfl) ?_; refine awps_nil ?_; refine thenQ_nil ?_; refine awp_ret ?_
    -- leaf 0F1T
    refine ret0 (noL hL) (.inl rfl) (resAs_tmp rfl (resAs_nil)) ?_ ?_
    · rfl
    refine ⟨int_w ?_, rfl⟩
    simp_all [ordF, orL]
  try simp only [↓cqA, cqB] at c1
  refine awp_skip ?_; refine thenQ_nil ?_; refine awp_seq ?_; refine awp_region ?_; refine awps_stp0 rfl rfl (by decide) (stp_move (.inl rfl) rfl) ?_; refine awps_stp0 rfl rfl (by decide) (stp_move (.inr rfl) rfl) ?_; refine awps_nil ?_; refine thenQ_nil ?_; refine awp_ret ?_
  -- leaf 0F1F
  refine ret0 (noL hL) (.inl rfl) (resAs_tmp rfl (resAs_nil)) ?_ ?_
  · rfl
  refine ⟨int_w ?_, rfl⟩
  simp_all [ordF, orL]
theorem num9_ok (e : Int) : PF 48 [iv e] (iv e) := by
  refine AC_intro Tryz.func48 rfl Tryz.ntmps48 (Nat.le_of_ble_eq_true rfl) fun c hL hQ hDD => ?_; refine awp_seq ?_; refine awp_region ?_; refine awps_stp0 rfl rfl (by decide) (stp_move (.inr rfl) rfl) ?_; refine awps_nil ?_; refine thenQ_nil ?_; refine awp_seq ?_; refine awp_region ?_; refine awps_stp0 rfl rfl (by decide) (stp_move (.inl rfl) rfl) ?_; refine awps_stp0 rfl rfl (by decide) (stp_move (.inr rfl) rfl) ?_; refine awps_nil ?_; refine thenQ_nil ?_; refine awp_ret ?_
  -- leaf 
  refine ret0 (noL hL) (.inl rfl) (resAs_tmp rfl (resAs_nil)) ?_ ?_
  · rfl
  exact ⟨rfl, rfl⟩
end Go.Proofs.YtdecgkhdbfgldaaGreat

set_option linter.unusedVariables false
set_option linter.unusedSimpArgs false
set_option maxRecDepth 8000
namespace Go.Proofs.YtdecgkhdbfgldaaGreat
open Go
def turnT (g : ByteArray → Tm) : Nat → Tm → Tm
  | 0, t => t
  | d + 1, t => if t.kind = 1 then g t.name else ⟨t.kind, t.name, t.n, t.args.map (turnT g d)⟩
def tmDsL (l : List Tm) : List (List D) := l.map tmD
theorem Turned_ok (g : ByteArray → Tm) (fb : FuncId) (hen : Enters Tryz.prog fb) (hby : ∀ s, PF fb [sv s] (.agg (lift true (tmD (g s))))) : ∀ (d : Nat) (t : Tm), dle d t → t.wf → PF 144 [tmA false t, .fn fb []] (.agg (lift true (tmD (turnT g d t))))
  | 0, t, h, _ => h.elim
  | d + 1, t, h, ht => by
    have hlen := tmDs_length t.args
    have hal := ht.2.2.2.1
    refine AC_intro Tryz.func144 rfl Tryz.ntmps144 (Nat.le_of_ble_eq_true rfl) fun c hL hQ hDD => ?_; refine awp_seq ?_; refine awp_region ?_; refine awps_stp1 rfl rfl (by decide) (stp_box 2 rfl rfl rfl) rfl ?_; refine awps_stp1 rfl rfl (by decide) (stp_alloc 4 rfl zv_api_Term rfl) rfl ?_; refine awps_nil ?_; refine thenQ_nil ?_; refine awp_seq ?_; refine awp_seq ?_; refine awp_region ?_; refine awps_stp0 rfl rfl (by decide) (stp_fieldAddr rfl fo_api_Term_0 rfl) ?_; refine awps_stp0 rfl rfl (by decide) (stp_load rfl tf_int rfl rfl rfl rfl rfl) ?_
    refine awps_stp0 rfl rfl (by decide) (stp_binI rfl rfl rfl rfl) ?_; refine awps_nil ?_; refine thenQ_nil ?_; refine awp_cond rfl (fun c0 => ?_) (fun c0 => ?_)
    · try simp only [↓cqA, cqB] at c0
      refine awp_seq ?_; refine awp_region ?_; refine awps_stp0 rfl rfl (by decide) (stp_move (.inl rfl) rfl) ?_; refine awps_stp0 rfl rfl (by decide) (stp_fieldAddr rfl fo_api_Term_1 rfl) ?_; refine awps_stp0 rfl rfl (by decide) (stp_load rfl tf_string rfl rfl rfl rfl rfl) ?_; refine awps_call (avs := [_]) true rfl rfl rfl (by decide) hen rfl rfl (hby t.name) rfl rfl ?_; refine awps_store rfl rfl rfl tf_api_Term rfl rfl rfl rfl rfl rfl rfl rfl rfl ?_; refine awps_nil ?_; refine thenQ_nil ?_; refine awp_ret ?_; refine thenQ_ret (?_)
      -- leaf 0T
      refine ret0 (noL hL) (.inl rfl) (resAs_cell tf_api_Term rfl rfl rfl (resAs_nil)) ?_ ?_
      · rfl
      exact ⟨by rw [turnT, if_pos c0]; rfl, rfl⟩
    try simp only [↓cqA, cqB] at c0
    refine awp_skip ?_; refine thenQ_nil ?_; refine awp_seq ?_; refine awp_region ?_; refine awps_stp0 rfl rfl (by decide) (stp_move (.inr rfl) rfl) ?_; refine awps_nil ?_; refine thenQ_nil ?_; refine awp_seq ?_; refine awp_seq ?_; refine awp_region ?_; refine awps_stp0 rfl rfl (by decide) (stp_fieldAddr rfl fo_api_Term_3 rfl) ?_; refine awps_stp0 rfl rfl (by decide) (stp_load rfl tf_S_api_Term rfl rfl rfl rfl rfl) ?_; refine awps_stp0 rfl rfl (by decide) (stp_len_dat rfl sl_S_api_Term rfl) ?_
    refine awps_stp0 rfl rfl (by decide) (stp_move (.inl rfl) rfl) ?_; refine awps_nil ?_; refine thenQ_nil ?_; refine awp_block ?_; refine awp_while (t.args.length) (fun k => k ≤ t.args.length) (fun k => ⟨[(1, .fn fb []), (2, .ptr 2 0), (4, .ptr 4 0), (5, .row 5), (16, .dat false 4 (tmDs t.args)), (17, iv (tmDs t.args).length), (18, iv (k : Int))], [(2, .box (lift false (tmD t))), (4, .box ([Value.int .i64 0, Value.string ⟨#[]⟩, Value.int .i64 0, Value.slice none 0 0].map .imm)), (5, .rowd 35 4 true (tmDsL ((t.args.take k).map (turnT g d))))]⟩) (by omega) ?_ (fun k hk hp => ?_)
    · exact Sub.trans (sub_nil_row (t := 5) (l := 5) 35 4 true rfl rfl) (sub_re (SubT.cons (lk_eq rfl (by first | rfl | simp)) (SubT.cons (lk_eq rfl (by first | rfl | simp)) (SubT.cons (lk_eq rfl (by first | rfl | simp)) (SubT.cons (lk_eq rfl (by first | rfl | simp)) (SubT.cons (lk_eq rfl (by first | rfl | simp)) (SubT.cons (lk_eq rfl (by first | rfl | simp)) (SubT.cons (lk_eq rfl (by first | rfl | simp)) (SubT.nil)))))))) (SubO.cons (ok_eq rfl (by rfl)) (SubO.cons (ok_eq rfl (by rfl)) (SubO.cons (ok_eq rfl (by rfl)) (SubO.nil)))) rfl rfl (noL' (noL hL) _))
    have hl2 : (tmDsL ((t.args.take k).map (turnT g d))).length ≤ t.args.length := by simp [tmDsL]; omega
    refine awp_seq ?_; refine awp_region ?_; refine awps_stp0 rfl rfl (by decide) (stp_binI rfl rfl rfl rfl) ?_; refine awps_nil ?_; refine thenQ_nil ?_; refine awp_seq ?_; refine awp_cond rfl (fun c1 => ?_) (fun c1 => ?_)
    · try simp only [↓cqA, cqB] at c1
      obtain ⟨u, hu⟩ := get_of_lt (l := t.args) (k := k) (by omega)
      have hum := List.mem_of_getElem? hu
      refine awp_skip ?_; refine thenQ_nil ?_; refine awp_seq ?_; refine awp_block ?_; refine awp_seq ?_; refine awp_region ?_; refine awps_stp0 rfl rfl (by decide) (stp_indexAddr rfl sl_S_api_Term rfl rfl (by omega) (tmDs_get hu)) ?_; refine awps_stp0 rfl rfl (by decide) (stp_load_elpa rfl tf_api_Term rfl rfl) ?_
      refine awps_stp1 rfl rfl (by decide) (stp_alloc 7 rfl zv_api_Term rfl) rfl ?_; refine awps_store rfl rfl rfl tf_api_Term rfl rfl rfl rfl rfl rfl rfl rfl rfl ?_; refine awps_nil ?_; refine thenQ_nil ?_; refine awp_region ?_; refine awps_stp0 rfl rfl (by decide) (stp_move (.inl rfl) rfl) ?_; refine awps_stp0 rfl rfl (by decide) (stp_load_all rfl tf_api_Term rfl rfl rfl rfl) ?_
      refine awps_stp0 rfl rfl (by decide) (stp_move (.inl rfl) rfl) ?_; refine awps_call (avs := [_, _]) true rfl rfl rfl (by decide) en_term_Turned rfl rfl (Turned_ok g fb hen hby d u (h u hum) (Tm.wfs_mem ht.2.2.2.2 hum)) rfl rfl ?_; refine awps_stp1 rfl rfl (by decide) (stp_buildSlice 26 rfl sl_S_api_Term zv_api_Term rfl rfl (by decide) (by decide) (by decide) rfl rfl rfl) rfl ?_; refine awps_u rfl rfl (by decide) (stpU_append1 27 ta_S_api_Term rfl rfl rfl rfl rfl rfl rfl rfl (noL hL _) (by omega) rfl) rfl ?_
      refine awps_stp0 rfl rfl (by decide) (stp_move (.inr rfl) rfl) ?_; refine awps_nil ?_; refine inQ_nil ?_; refine thenQ_nil ?_; refine awp_region ?_; refine awps_stp0 rfl rfl (by decide) (stp_add rfl rfl rfl (by omega)) ?_; refine awps_stp0 rfl rfl (by decide) (stp_move (.inl rfl) rfl) ?_; refine awps_nil ?_; refine thenQ_nil ?_; refine ⟨?_, ?_, ?_⟩
      · skip
        omega
      · skip
        omega
      exact Sub.trans (sub_rename 27 5 (noL hL _) (noL hL _)) (sub_re (SubT.cons (lk_eq rfl (by first | rfl | simp)) (SubT.cons (lk_eq rfl (by first | rfl | simp)) (SubT.cons (lk_eq rfl (by first | rfl | simp)) (SubT.cons (lk_eq rfl (by first | rfl | simp)) (SubT.cons (lk_eq rfl (by first | rfl | simp)) (SubT.cons (lk_eq rfl (by first | rfl | simp)) (SubT.cons (lk_eq rfl (by first | rfl | simp)) (SubT.nil)))))))) (SubO.cons (ok_eq rfl (by rfl)) (SubO.cons (ok_eq rfl (by rfl)) (SubO.cons (ok_eq rfl (by rw [take_snoc hu, List.map_append, tmDsL, tmDsL, List.map_append]; rfl)) (SubO.nil)))) rfl rfl (noL' (noL hL) _))
    try simp only [↓cqA, cqB] at c1
    refine awp_exit ?_; refine thenQ_exit (thenQ_exit (inQ_hit ?_)); refine thenQ_nil ?_; refine awp_seq ?_; refine awp_region ?_; refine awps_stp0 rfl rfl (by decide) (stp_move (.inl rfl) rfl) ?_; refine awps_stp0 rfl rfl (by decide) (stp_fieldAddr rfl fo_api_Term_3 rfl) ?_; refine awps_store rfl rfl rfl tf_S_api_Term rfl rfl rfl rfl rfl rfl rfl rfl rfl ?_; refine awps_nil ?_; refine thenQ_nil ?_; refine awp_seq ?_; refine awp_sub (sub_freeze (l := 5) rfl (by decide) (noL hL _) rfl rfl) ?_; refine awp_region ?_
    refine awps_stp0 rfl rfl (by decide) (stp_load_all rfl tf_api_Term rfl rfl rfl rfl) ?_; refine awps_store rfl rfl rfl tf_api_Term rfl rfl rfl rfl rfl rfl rfl rfl rfl ?_; refine awps_nil ?_; refine thenQ_nil ?_; refine awp_ret ?_
    -- leaf 0F1F
    refine ret0 (noL hL) (.inl rfl) (resAs_cell tf_api_Term rfl rfl rfl (resAs_nil)) ?_ ?_
    · rfl
    exact ⟨by rw [turnT, if_neg c0, List.take_of_length_le (by omega)]; simp only [tmD, tmDs_map]; rfl, rfl⟩
theorem Own1_raw (s : ByteArray) : PF 145 [sv s] (.agg [iv 1, sv s, iv 0, .imm (.slice none 0 0)]) := by
  refine AC_intro Tryz.func145 rfl Tryz.ntmps145 (Nat.le_of_ble_eq_true rfl) fun c hL hQ hDD => ?_; refine awp_seq ?_; refine awp_region ?_; refine awps_stp1 rfl rfl (by decide) (stp_alloc 2 rfl zv_api_Term rfl) rfl ?_; refine awps_nil ?_; refine thenQ_nil ?_; refine awp_seq ?_; refine awp_region ?_; refine awps_stp0 rfl rfl (by decide) (stp_move (.inl rfl) rfl) ?_
  refine awps_stp0 rfl rfl (by decide) (stp_build rfl zv_api_Term rfl pl_api_Term rfl rfl) ?_; refine awps_store rfl rfl rfl tf_api_Term rfl rfl rfl rfl rfl rfl rfl rfl rfl ?_; refine awps_nil ?_; refine thenQ_nil ?_; refine awp_ret ?_
  -- leaf 
  refine ret0 (noL hL) (.inl rfl) (resAs_cell tf_api_Term rfl rfl rfl (resAs_nil)) ?_ ?_
  · rfl
  exact ⟨rfl, rfl⟩
theorem Own1_ok (s : ByteArray) : PF 145 [sv s] (.agg (lift true (tmD ⟨1, s, 0, []⟩))) :=
  AC_leR (.agg (.cons .refl (.cons .refl (.cons .refl (.cons .nil .nil))))) (Own1_raw s)
def ownT (d : Nat) (t : Tm) : Tm := turnT (fun s => ⟨1, s, 0, []⟩) d t
theorem Own_ok (d : Nat) (t : Tm) (h : dle d t) (ht : t.wf) : PF 86 [tmA false t] (.agg (lift true (tmD (ownT d t)))) := by
  refine AC_intro Tryz.func86 rfl Tryz.ntmps86 (Nat.le_of_ble_eq_true rfl) fun c hL hQ hDD => ?_; refine awp_seq ?_; refine awp_region ?_; refine awps_stp1 rfl rfl (by decide) (stp_box 1 rfl rfl rfl) rfl ?_; refine awps_stp1 rfl rfl (by decide) (stp_alloc 2 rfl zv_api_Term rfl) rfl ?_; refine awps_nil ?_; refine thenQ_nil ?_; refine awp_seq ?_; refine awp_region ?_; refine awps_stp0 rfl rfl (by decide) (stp_load_all rfl tf_api_Term rfl rfl rfl rfl) ?_
  refine awps_call (avs := [_, _]) true rfl rfl rfl (by decide) en_term_Turned rfl rfl (Turned_ok _ _ en_term_Own_1 Own1_ok d t h ht) rfl rfl ?_; refine awps_store rfl rfl rfl tf_api_Term rfl rfl rfl rfl rfl rfl rfl rfl rfl ?_; refine awps_nil ?_; refine thenQ_nil ?_; refine awp_ret ?_
  -- leaf 
  refine ret0 (noL hL) (.inl rfl) (resAs_cell tf_api_Term rfl rfl rfl (resAs_nil)) ?_ ?_
  · rfl
  exact ⟨rfl, rfl⟩
theorem own_may : ∀ (d : Nat) (t : Tm) (n : Int), (mayS d t n).1 = true → ownT d t = t
  | 0, t, n, h => by simp [mayS] at h
  | d + 1, t, n, h => by
    have hL : ∀ (l : List Tm) (n : Int), (mayL (mayS d) l n).1 = true → l.map (ownT d) = l := by
      intro l
      induction l with
      | nil => intro n _; rfl
      | cons a l ih =>
        intro n h
        simp only [mayL] at h
        split at h
        · rename_i hb
          rw [List.map_cons, own_may d a n hb, ih _ h]
        · cases h
    obtain ⟨kind, name, m, args⟩ := t
    have e0 : ∀ l : List Tm, l.length = 0 → l = [] := fun l h => List.eq_nil_of_length_eq_zero h
    simp only [mayS] at h
    split at h
    · cases h
    split at h
    · rename_i k1
      simp only [Bool.and_eq_true, decide_eq_true_eq] at h
      simp only [ownT, turnT, if_pos k1]
      rw [k1, h.1.2, e0 _ h.2]
    rename_i k1
    split at h
    · simp only [Bool.and_eq_true, decide_eq_true_eq] at h
      simp only [ownT, turnT, if_neg k1]
      rw [e0 _ h.2]; rfl
    split at h
    · split at h
      · have hA : args.map (turnT (fun s => ⟨1, s, 0, []⟩) d) = args := hL args (n - 1) h
        simp only [ownT, turnT, if_neg k1]
        rw [hA]
      · cases h
    · cases h
end Go.Proofs.YtdecgkhdbfgldaaGreat

set_option linter.unusedVariables false
set_option linter.unusedSimpArgs false
set_option maxRecDepth 8000
namespace Go.Proofs.YtdecgkhdbfgldaaGreat
open Go
abbrev kpA (k : Kp) : AV := .agg (lift false (kpD k))
theorem factsOwn_ok (f : Ft) (hf : f.wf) (hm : mayT f.t = true) : PF 126 [ftA f] (.agg (lift true (ftD f))) := by
  have e := own_may 5 f.t 24 hm
  have key := Own_ok 5 f.t (mayT_dle hm).1 hf.1
  rw [e] at key
  refine AC_intro Tryz.func126 rfl Tryz.ntmps126 (Nat.le_of_ble_eq_true rfl) fun c hL hQ hDD => ?_; refine awp_seq ?_; refine awp_region ?_; refine awps_stp1 rfl rfl (by decide) (stp_box 1 rfl rfl rfl) rfl ?_; refine awps_stp1 rfl rfl (by decide) (stp_alloc 2 rfl zv_api_Fact rfl) rfl ?_; refine awps_nil ?_; refine thenQ_nil ?_; refine awp_seq ?_; refine awp_drawG 5 mixed rfl rfl rfl rfl ?_; refine MGo_c0 rfl (by decide) (.run rfl (stp_fieldAddr rfl fo_api_Fact_0 rfl)) ?_; refine MGo_c0 rfl (by decide) (.run rfl (stp_load rfl tf_api_Term rfl rfl rfl rfl rfl)) ?_
  refine MGo_c0 rfl (by decide) (.run rfl (stp_call (avs := [_]) true rfl en_term_Own rfl rfl (key) (fun _ => rfl) rfl)) ?_; refine MGo_c0 rfl (by decide) (.run rfl (stp_fieldAddr rfl fo_api_Fact_1 rfl)) ?_; refine MGo_c0 rfl (by decide) (.run rfl (stp_load rfl tf_api_Span rfl rfl rfl rfl rfl)) ?_; refine MGo_nil ⟨rfl, rfl, ?_⟩; refine awps_stp0 rfl rfl (by decide) (stp_build rfl zv_api_Fact rfl pl_api_Fact rfl rfl) ?_; refine awps_store rfl rfl rfl tf_api_Fact rfl rfl rfl rfl rfl rfl rfl rfl rfl ?_; refine awps_nil ?_; refine thenQ_nil ?_; refine awp_ret ?_
  -- leaf 
  refine ret0 (noL hL) (.inl rfl) (resAs_cell tf_api_Fact rfl rfl rfl (resAs_nil)) ?_ ?_
  · rfl
  exact ⟨rfl, rfl⟩
theorem Owns_ok (l : List Kp) (hl : l.length ≤ 300) (hw : ∀ k ∈ l, k.wf) (hm : ∀ k ∈ l, mayT k.f.t = true) : AC Tryz.prog 119 [.dat false 7 (kpDs l)] [] (fun r O => r = .row 2 ∧ O = [(2, .rowd 92 7 true (kpDs l))]) := by
  have hlen := kpDs_length l
  refine AC_intro Tryz.func119 rfl Tryz.ntmps119 (Nat.le_of_ble_eq_true rfl) fun c hL hQ hDD => ?_; refine awp_seq ?_; refine awp_region ?_; refine awps_stp0 rfl rfl (by decide) (stp_move (.inr rfl) rfl) ?_; refine awps_nil ?_; refine thenQ_nil ?_; refine awp_seq ?_; refine awp_seq ?_; refine awp_region ?_; refine awps_stp0 rfl rfl (by decide) (stp_move (.inl rfl) rfl) ?_; refine awps_stp0 rfl rfl (by decide) (stp_len_dat rfl sl_S_api_Kept rfl) ?_
  refine awps_stp0 rfl rfl (by decide) (stp_move (.inl rfl) rfl) ?_; refine awps_nil ?_; refine thenQ_nil ?_; refine awp_block ?_; refine awp_while (l.length) (fun k => k ≤ l.length) (fun k => ⟨[(2, .row 2), (5, .dat false 7 (kpDs l)), (6, iv (kpDs l).length), (7, iv (k : Int))], [(2, .rowd 92 7 true (kpDs (l.take k)))]⟩) (by omega) ?_ (fun k hk hp => ?_)
  · exact Sub.trans (sub_nil_row (t := 2) (l := 2) 92 7 true rfl rfl) (sub_re (SubT.cons (lk_eq rfl (by first | rfl | simp)) (SubT.cons (lk_eq rfl (by first | rfl | simp)) (SubT.cons (lk_eq rfl (by first | rfl | simp)) (SubT.cons (lk_eq rfl (by first | rfl | simp)) (SubT.nil))))) (SubO.cons (ok_eq rfl (by rfl)) (SubO.nil)) rfl rfl (noL' (noL hL) _))
  have hl2 : (kpDs (l.take k)).length ≤ l.length := by rw [kpDs_length, List.length_take]; omega
  refine awp_seq ?_; refine awp_region ?_; refine awps_stp0 rfl rfl (by decide) (stp_binI rfl rfl rfl rfl) ?_; refine awps_nil ?_; refine thenQ_nil ?_; refine awp_seq ?_; refine awp_cond rfl (fun c0 => ?_) (fun c0 => ?_)
  · try simp only [↓cqA, cqB] at c0
    obtain ⟨u, hu⟩ := get_of_lt (l := l) (k := k) (by omega)
    have hum := List.mem_of_getElem? hu
    refine awp_skip ?_; refine thenQ_nil ?_; refine awp_seq ?_; refine awp_block ?_; refine awp_seq ?_; refine awp_region ?_; refine awps_stp0 rfl rfl (by decide) (stp_indexAddr rfl sl_S_api_Kept rfl rfl (by omega) (kpDs_get hu)) ?_; refine awps_stp0 rfl rfl (by decide) (stp_load_elpa rfl tf_api_Kept rfl rfl) ?_
    refine awps_stp1 rfl rfl (by decide) (stp_alloc 4 rfl zv_api_Kept rfl) rfl ?_; refine awps_store rfl rfl rfl tf_api_Kept rfl rfl rfl rfl rfl rfl rfl rfl rfl ?_; refine awps_nil ?_; refine thenQ_nil ?_; refine awp_drawG 8 mixed rfl rfl rfl rfl ?_; refine MGo_c0 rfl (by decide) (.run rfl (stp_move (.inl rfl) rfl)) ?_; refine MGo_c0 rfl (by decide) (.run rfl (stp_fieldAddr rfl fo_api_Kept_0 rfl)) ?_; refine MGo_c0 rfl (by decide) (.run rfl (stp_load rfl tf_int rfl rfl rfl rfl rfl)) ?_; refine MGo_c0 rfl (by decide) (.run rfl (stp_fieldAddr rfl fo_api_Kept_1 rfl)) ?_
    refine MGo_c0 rfl (by decide) (.run rfl (stp_load rfl tf_api_Fact rfl rfl rfl rfl rfl)) ?_; refine MGo_c0 rfl (by decide) (.run rfl (stp_call (avs := [_]) true rfl en_facts_Own rfl rfl (factsOwn_ok u.f (hw u hum).2 (hm u hum)) (fun _ => rfl) rfl)) ?_; refine MGo_c0 rfl (by decide) (.run rfl (stp_build rfl zv_api_Kept rfl pl_api_Kept rfl rfl)) ?_; refine MGo_c1 rfl (by decide) (.run rfl (stp_buildSlice 18 rfl sl_S_api_Kept zv_api_Kept rfl rfl (by decide) (by decide) (by decide) rfl rfl rfl)) ?_; refine MGo_nil ⟨rfl, rfl, ?_⟩
    refine awps_u rfl rfl (by decide) (stpU_append1 19 ta_S_api_Kept rfl rfl rfl rfl rfl rfl rfl rfl (noL hL _) (by omega) rfl) rfl ?_; refine awps_stp0 rfl rfl (by decide) (stp_move (.inr rfl) rfl) ?_; refine awps_nil ?_; refine inQ_nil ?_; refine thenQ_nil ?_; refine awp_region ?_; refine awps_stp0 rfl rfl (by decide) (stp_add rfl rfl rfl (by omega)) ?_; refine awps_stp0 rfl rfl (by decide) (stp_move (.inl rfl) rfl) ?_; refine awps_nil ?_; refine thenQ_nil ?_; refine ⟨?_, ?_, ?_⟩
    · skip
      omega
    · skip
      omega
    exact Sub.trans (sub_rename 19 2 (noL hL _) (noL hL _)) (sub_re (SubT.cons (lk_eq rfl (by first | rfl | simp)) (SubT.cons (lk_eq rfl (by first | rfl | simp)) (SubT.cons (lk_eq rfl (by first | rfl | simp)) (SubT.cons (lk_eq rfl (by first | rfl | simp)) (SubT.nil))))) (SubO.cons (ok_eq rfl (by rw [take_snoc hu, kpDs, kpDs, List.map_append]; rfl)) (SubO.nil)) rfl rfl (noL' (noL hL) _))
  try simp only [↓cqA, cqB] at c0
  refine awp_exit ?_; refine thenQ_exit (thenQ_exit (inQ_hit ?_)); refine thenQ_nil ?_; refine awp_seq ?_; refine awp_region ?_; refine awps_stp0 rfl rfl (by decide) (stp_move (.inl rfl) rfl) ?_; refine awps_stp0 rfl rfl (by decide) (stp_move (.inr rfl) rfl) ?_; refine awps_nil ?_; refine thenQ_nil ?_; refine awp_ret ?_
  -- leaf 0F
  change retQ _ _ _ _ _ _ _
  refine retO (O' := [(2, _)]) (.inl rfl) (resAs_tmp rfl resAs_nil) (SubO.cons rfl SubO.nil) ?_ ?_ (noL' (noL hL) _) ?_
  · rfl
  · rfl
  exact ⟨rfl, by rw [List.take_of_length_le (by omega)]⟩
theorem IndexFunc_kp_ok (B : Bool) (ts : List Kp) (es : List (List D)) (hes : es = ts.map kpD) (hlen : ts.length ≤ 140737488351232) (g : FuncId) (caps : List AV) (hen : Enters Tryz.prog g) (Os : Nat → List (Nat × Ob)) (p : Nat → Bool) (hO : Thread B caps Os)
    (hstep : ∀ k u, ts[k]? = some u → (∀ j, j < k → p j = false) → AC Tryz.prog g (kpA u :: caps) (Os k) (fun r O => r = bv (p k) ∧ O = Os (k + 1))) :
    AC Tryz.prog 188 [.dat false 7 es, .fn g caps] (Os 0) (fun r O => ∃ m n i, m ≤ ts.length ∧ (∀ j, j < m → p j = false) ∧ ((m < ts.length ∧ p m = true ∧ i = (m : Int) ∧ n = m + 1) ∨ (m = ts.length ∧ i = -1 ∧ n = m)) ∧ r = iv i ∧ O = Os n) := by
  have hl : es.length = ts.length := by rw [hes, List.length_map]
  refine AC_intro Tryz.func188 rfl Tryz.ntmps188 (Nat.le_of_ble_eq_true rfl) fun c hL hQ hDD => ?_; refine awp_seq ?_; refine awp_region ?_; refine awps_stp0 rfl rfl (by decide) (stp_move (.inr rfl) rfl) ?_; refine awps_nil ?_; refine thenQ_nil ?_; refine awp_seq ?_; refine awp_seq ?_; refine awp_region ?_; refine awps_stp0 rfl rfl (by decide) (stp_move (.inl rfl) rfl) ?_; refine awps_stp0 rfl rfl (by decide) (stp_len_dat rfl sl_S_api_Kept rfl) ?_
  refine awps_stp0 rfl rfl (by decide) (stp_move (.inl rfl) rfl) ?_; refine awps_nil ?_; refine thenQ_nil ?_; refine awp_block ?_; refine awp_while (ts.length) (fun k => k ≤ ts.length ∧ ∀ j, j < k → p j = false) (fun k => ⟨[(0, .dat false 7 es), (1, .fn g caps), (7, iv es.length), (8, iv (k : Int))], Os k⟩) (⟨by omega, fun j hj => absurd hj (by omega)⟩) ?_ (fun k hk hp => ?_)
  · exact sub_re (SubT.cons (lk_eq rfl (by first | rfl | simp)) (SubT.cons (lk_eq rfl (by first | rfl | simp)) (SubT.cons (lk_eq rfl (by first | rfl | simp)) (SubT.cons (lk_eq rfl (by first | rfl | simp)) (SubT.nil))))) (fun _ _ h => h) (by simp [allT, AV.allL, hO.all]) (hO.self _) (fun l hl => by rw [hO.dom]; exact (hL l).1 hl)
  refine awp_seq ?_; refine awp_region ?_; refine awps_stp0 rfl rfl (by decide) (stp_binI rfl rfl rfl rfl) ?_; refine awps_nil ?_; refine thenQ_nil ?_; refine awp_seq ?_; refine awp_cond rfl (fun c0 => ?_) (fun c0 => ?_)
  · try simp only [↓cqA, cqB] at c0
    obtain ⟨u, hu⟩ := get_of_lt (l := ts) (k := k) (by omega)
    refine awp_skip ?_; refine thenQ_nil ?_; refine awp_seq ?_; refine awp_block ?_; refine awp_seq ?_; refine awp_region ?_; refine awps_stp0 rfl rfl (by decide) (stp_move (.inl rfl) rfl) ?_; refine awps_stp0 rfl rfl (by decide) (stp_move (.inr rfl) rfl) ?_; refine awps_nil ?_; refine thenQ_nil ?_; refine awp_seq ?_; refine awp_region ?_; refine awps_stp0 rfl rfl (by decide) (stp_move (.inl rfl) rfl) ?_; refine awps_stp0 rfl rfl (by decide) (stp_move (.inl rfl) rfl) ?_; refine awps_stp0 rfl rfl (by decide) (stp_move (.inl rfl) rfl) ?_
    refine awps_stp0 rfl rfl (by decide) (stp_indexAddr rfl sl_S_api_Kept rfl rfl (by omega) (by rw [hes, List.getElem?_map]; exact congrArg (Option.map kpD) hu)) ?_; refine awps_stp0 rfl rfl (by decide) (stp_load_elpa rfl tf_api_Kept rfl rfl) ?_; refine awps_callP (avs := [_]) B rfl rfl rfl (by decide) hen rfl rfl (hstep k u hu hp.2) (by rw [List.cons_append, List.nil_append]; simp only [AV.cvs, hO.cvs]; rfl) (hO.pass k) (by rintro r O' ⟨_, rfl⟩ l hl; left; rw [hO.dom] at hl ⊢; exact hl) (by rintro hB r O' ⟨rfl, rfl⟩; exact ⟨rfl, hO.q hB _⟩) ?_
    rintro r O' ⟨rfl, rfl⟩
    refine awps_nil ?_; refine thenQ_nil ?_; refine awp_cond rfl (fun c1 => ?_) (fun c1 => ?_)
    · try simp only [↓cqA, cqB] at c1
      refine awp_seq ?_; refine awp_region ?_; refine awps_stp0 rfl rfl (by decide) (stp_move (.inl rfl) rfl) ?_; refine awps_stp0 rfl rfl (by decide) (stp_move (.inr rfl) rfl) ?_; refine awps_nil ?_; refine thenQ_nil ?_; refine awp_ret ?_; refine inQ_ret (thenQ_ret (thenQ_ret (inQ_ret (thenQ_ret (?_)))))
      change retQ _ _ _ _ _ _ _
      refine retO (.inl rfl) (resAs_tmp rfl resAs_nil) SubO.left rfl (hO.self _) (fun l hl => by rw [hO.dom]; exact (hL l).1 hl) ?_
      exact ⟨k, _, _, by omega, hp.2, .inl ⟨by omega, c1, rfl, rfl⟩, rfl, rfl⟩
    try simp only [↓cqA, cqB] at c1
    refine awp_skip ?_; refine inQ_nil ?_; refine thenQ_nil ?_; refine awp_region ?_; refine awps_stp0 rfl rfl (by decide) (stp_add rfl rfl rfl (by omega)) ?_; refine awps_stp0 rfl rfl (by decide) (stp_move (.inl rfl) rfl) ?_; refine awps_nil ?_; refine thenQ_nil ?_; refine ⟨?_, ?_, ?_⟩
    · skip
      omega
    · skip
      refine ⟨by omega, fun j hj => ?_⟩
      by_cases hjk : j < k
      · exact hp.2 j hjk
      · rw [show j = k by omega]; exact c1
    exact sub_re (SubT.cons (lk_eq rfl (by first | rfl | simp)) (SubT.cons (lk_eq rfl (by first | rfl | simp)) (SubT.cons (lk_eq rfl (by first | rfl | simp)) (SubT.cons (lk_eq rfl (by first | rfl | simp)) (SubT.nil))))) (SubO.left) (by simp [allT, AV.allL, hO.all]) (hO.self _) (fun l hl => by rw [hO.dom]; exact (hL l).1 hl)
  try simp only [↓cqA, cqB] at c0
  refine awp_exit ?_; refine thenQ_exit (thenQ_exit (inQ_hit ?_)); refine thenQ_nil ?_; refine awp_seq ?_; refine awp_region ?_; refine awps_stp0 rfl rfl (by decide) (stp_move (.inr rfl) rfl) ?_; refine awps_nil ?_; refine thenQ_nil ?_; refine awp_ret ?_
  change retQ _ _ _ _ _ _ _
  refine retO (.inl rfl) (resAs_tmp rfl resAs_nil) (fun _ _ h => h) rfl (hO.self _) (fun l hl => by rw [hO.dom]; exact (hL l).1 hl) ?_
  exact ⟨k, _, _, by omega, hp.2, .inr ⟨by omega, rfl, rfl⟩, rfl, rfl⟩
theorem At1_ok (k : Kp) (f : Ft) (hd : dle 5 k.f.t) (hk : k.wf) (hf : f.wf) : AC Tryz.prog 189 [kpA k, .ptr 3 0] [(3, .box (lift false (ftD f)))] (fun r O => r = bv (decide (cmpF k.f f = 0)) ∧ O = [(3, .box (lift false (ftD f)))]) := by
  have hkf := hk.2
  refine AC_intro Tryz.func189 rfl Tryz.ntmps189 (Nat.le_of_ble_eq_true rfl) fun c hL hQ hDD => ?_; refine awp_seq ?_; refine awp_region ?_; refine awps_stp1 rfl rfl (by decide) (stp_box 2 rfl rfl rfl) rfl ?_; refine awps_stp0 rfl rfl (by decide) (stp_move (.inr rfl) rfl) ?_; refine awps_nil ?_; refine thenQ_nil ?_; refine awp_seq ?_; refine awp_region ?_; refine awps_stp0 rfl rfl (by decide) (stp_fieldAddr rfl fo_api_Kept_1 rfl) ?_; refine awps_stp0 rfl rfl (by decide) (stp_load rfl tf_api_Fact rfl rfl rfl rfl rfl) ?_
  refine awps_stp0 rfl rfl (by decide) (stp_load_all rfl tf_api_Fact rfl rfl rfl rfl) ?_; refine awps_call (avs := [_, _]) true rfl rfl rfl (by decide) en_facts_Compare rfl rfl (factsCompare_ok k.f f hd hkf hf) rfl rfl ?_; refine awps_stp0 rfl rfl (by decide) (stp_binI rfl rfl rfl rfl) ?_; refine awps_stp0 rfl rfl (by decide) (stp_move (.inr rfl) rfl) ?_; refine awps_nil ?_; refine thenQ_nil ?_; refine awp_ret ?_
  -- leaf 
  change retQ _ _ _ _ _ _ _
  refine retO (O' := [(3, _)]) (.inl rfl) (resAs_tmp rfl resAs_nil) (SubO.cons rfl SubO.nil) ?_ ?_ (LO hL rfl) ?_
  · rfl
  · rfl
  exact ⟨bool_w (by rw [Bool.eq_iff_iff]; simp), rfl⟩
def atN (f : Ft) : List Kp → Int
  | [] => -1
  | k :: l => if cmpF k.f f = 0 then 0 else if atN f l < 0 then -1 else atN f l + 1
theorem atN_some (f : Ft) : ∀ (l : List Kp) (m : Nat) (x : Kp), l[m]? = some x → cmpF x.f f = 0 → (∀ (j : Nat) (y : Kp), j < m → l[j]? = some y → cmpF y.f f ≠ 0) → atN f l = m
  | [], m, x, h, _, _ => by simp at h
  | k :: l, 0, x, h, hx, _ => by
    simp only [List.getElem?_cons_zero, Option.some.injEq] at h; subst h
    rw [atN, if_pos hx]; rfl
  | k :: l, m + 1, x, h, hx, hj => by
    have ih := atN_some f l m x (by simpa using h) hx (fun j y hjm hy => hj (j + 1) y (by omega) (by simpa using hy))
    rw [atN, if_neg (hj 0 k (by omega) (by simp)), ih, if_neg (by omega)]; push_cast; rfl
theorem atN_none (f : Ft) : ∀ (l : List Kp), (∀ (j : Nat) (y : Kp), l[j]? = some y → cmpF y.f f ≠ 0) → atN f l = -1
  | [], _ => rfl
  | k :: l, h => by
    have ih := atN_none f l (fun j y hy => h (j + 1) y (by simpa using hy))
    rw [atN, if_neg (h 0 k (by simp)), ih, if_pos (by omega)]
theorem At_ok (l : List Kp) (f : Ft) (hl : l.length ≤ 300) (hw : ∀ k ∈ l, k.wf) (hm : ∀ k ∈ l, mayT k.f.t = true) (hf : f.wf) : PF 125 [.dat false 7 (kpDs l), ftA f] (iv (atN f l)) := by
  have hstep : ∀ (k : Nat) (u : Kp), l[k]? = some u → (∀ j, j < k → (match l[j]? with | some x => decide (cmpF x.f f = 0) | none => false) = false) → AC Tryz.prog 189 (kpA u :: [.ptr 3 0]) [(3, .box (lift false (ftD f)))] (fun r O => r = bv (match l[k]? with | some x => decide (cmpF x.f f = 0) | none => false) ∧ O = [(3, .box (lift false (ftD f)))]) := fun k u hu _ => by
    have hum := List.mem_of_getElem? hu
    rw [hu]
    exact At1_ok u f (mayT_dle (hm u hum)).1 (hw u hum) hf
  refine AC_intro Tryz.func125 rfl Tryz.ntmps125 (Nat.le_of_ble_eq_true rfl) fun c hL hQ hDD => ?_; refine awp_seq ?_; refine awp_region ?_; refine awps_stp1 rfl rfl (by decide) (stp_box 3 rfl rfl rfl) rfl ?_; refine awps_stp0 rfl rfl (by decide) (stp_move (.inr rfl) rfl) ?_; refine awps_nil ?_; refine thenQ_nil ?_; refine awp_seq ?_; refine awp_region ?_; refine awps_stp0 rfl rfl (by decide) (stp_move (.inl rfl) rfl) ?_; refine awps_stp0 rfl rfl (by decide) (stp_makeFunc (vs := [_]) rfl rfl) ?_
  refine awps_callP (avs := [_, _]) false rfl rfl rfl (by decide) en_slices_IndexFunc_api_Kept_api_Kept rfl rfl (IndexFunc_kp_ok false l _ rfl (by omega) _ [.ptr 3 0] en_facts_At_1 (fun _ => [(3, .box (lift false (ftD f)))]) (fun k => match l[k]? with | some x => decide (cmpF x.f f = 0) | none => false) ⟨fun k l => rfl, fun k => passO (.cons rfl trivial rfl .nil), fun k => rfl, fun k => rfl, fun k => rfl, fun k => rfl, fun h => by cases h⟩ hstep) (rfl) (passO (.cons rfl trivial rfl .nil)) (by rintro r O' ⟨m, n, i, _, _, _, _, rfl⟩; exact frB rfl) (by rintro h; cases h) ?_
  rintro r O' ⟨m, n, i, hm1, hf1, hc, rfl, rfl⟩
  refine awps_stp0 rfl rfl (by decide) (stp_move (.inr rfl) rfl) ?_; refine awps_nil ?_; refine thenQ_nil ?_; refine awp_ret ?_
  -- leaf 
  refine ret0 (noL hL) (.inl rfl) (resAs_tmp rfl (resAs_nil)) ?_ ?_
  · rfl
  refine ⟨int_w ?_, rfl⟩
  have hno : ∀ (j : Nat) (y : Kp), j < m → l[j]? = some y → cmpF y.f f ≠ 0 := fun j y hj hy => by
    have := hf1 j hj
    simp only [hy] at this
    simpa using this
  rcases hc with ⟨h1, h2, h3, _⟩ | ⟨h1, h2, _⟩
  · obtain ⟨x, hx⟩ := get_of_lt (l := l) (k := m) h1
    simp only [hx] at h2
    rw [h3, atN_some f l m x hx (by simpa using h2) hno]
  · rw [h2, atN_none f l (fun j y hy => hno j y (by have := (List.getElem?_eq_some_iff.1 hy).1; omega) hy)]
end Go.Proofs.YtdecgkhdbfgldaaGreat

set_option linter.unusedVariables false
set_option linter.unusedSimpArgs false
set_option maxRecDepth 8000
namespace Go.Proofs.YtdecgkhdbfgldaaGreat
open Go
theorem bl_irrefl : ∀ l : List UInt8, Op.bytesLess l l = false
  | [] => rfl
  | x :: l => by simp [Op.bytesLess, bl_irrefl l]
theorem bl_trans : ∀ a b c : List UInt8, Op.bytesLess a b = true → Op.bytesLess b c = true → Op.bytesLess a c = true
  | [], _, [], _, h2 => by cases ‹List UInt8› <;> simp [Op.bytesLess] at h2
  | [], _, _ :: _, _, _ => by simp [Op.bytesLess]
  | _ :: _, [], _, h1, _ => by simp [Op.bytesLess] at h1
  | _ :: _, _ :: _, [], _, h2 => by simp [Op.bytesLess] at h2
  | x :: a, y :: b, z :: c, h1, h2 => by
    have ih := bl_trans a b c
    simp only [Op.bytesLess, Bool.or_eq_true, decide_eq_true_eq, Bool.and_eq_true, beq_iff_eq] at h1 h2 ⊢
    rcases h1 with h1 | ⟨rfl, h1⟩
    · rcases h2 with h2 | ⟨rfl, h2⟩
      · exact .inl (UInt8.lt_trans h1 h2)
      · exact .inl h1
    · rcases h2 with h2 | ⟨rfl, h2⟩
      · exact .inl h2
      · exact .inr ⟨rfl, ih h1 h2⟩
theorem bl_tri : ∀ a b : List UInt8, Op.bytesLess a b = true ∨ a = b ∨ Op.bytesLess b a = true
  | [], [] => .inr (.inl rfl)
  | [], _ :: _ => .inl (by simp [Op.bytesLess])
  | _ :: _, [] => .inr (.inr (by simp [Op.bytesLess]))
  | x :: a, y :: b => by
    have ih := bl_tri a b
    simp only [Op.bytesLess, Bool.or_eq_true, decide_eq_true_eq, Bool.and_eq_true, beq_iff_eq, List.cons.injEq]
    rcases Nat.lt_trichotomy x.toNat y.toNat with h | h | h
    · exact .inl (.inl (UInt8.lt_iff_toNat_lt.2 h))
    · have := UInt8.toNat_inj.1 h; subst this
      rcases ih with h | h | h
      · exact .inl (.inr ⟨rfl, h⟩)
      · exact .inr (.inl ⟨rfl, h⟩)
      · exact .inr (.inr (.inr ⟨rfl, h⟩))
    · exact .inr (.inr (.inl (UInt8.lt_iff_toNat_lt.2 h)))
theorem ltS_irrefl (a : ByteArray) : ltS a a = false := bl_irrefl _
theorem ltS_trans {a b c : ByteArray} (h1 : ltS a b = true) (h2 : ltS b c = true) : ltS a c = true := bl_trans _ _ _ h1 h2
theorem ltS_tri (a b : ByteArray) : ltS a b = true ∨ a = b ∨ ltS b a = true := by
  rcases bl_tri a.toList b.toList with h | h | h
  · exact .inl h
  · exact .inr (.inl (toList_inj.1 h))
  · exact .inr (.inr h)
def RisB (l : List Bd) : Prop := l.Pairwise (fun a b => ltS a.name b.name = true)
def posB (l : List Bd) (s : ByteArray) : Nat := (l.takeWhile (fun b => ltS b.name s)).length
def lookB (l : List Bd) (s : ByteArray) : Option Tm := (l.find? (fun b => decide (b.name = s))).map Bd.t
def hasB (l : List Bd) (s : ByteArray) : Bool := l.any (fun b => decide (b.name = s))
theorem posB_le (l : List Bd) (s : ByteArray) : posB l s ≤ l.length := (List.takeWhile_prefix _).length_le
theorem RisB.lt {l : List Bd} (h : RisB l) {i j : Nat} {a b : Bd} (hij : i < j) (ha : l[i]? = some a) (hb : l[j]? = some b) : ltS a.name b.name = true := by
  obtain ⟨h1, rfl⟩ := List.getElem?_eq_some_iff.1 ha
  obtain ⟨h2, rfl⟩ := List.getElem?_eq_some_iff.1 hb
  exact List.pairwise_iff_getElem.1 h i j h1 h2 hij
theorem posB_spec (s : ByteArray) : ∀ (l : List Bd), (∀ (j : Nat) (b : Bd), j < posB l s → l[j]? = some b → ltS b.name s = true) ∧ ∀ b, l[posB l s]? = some b → ltS b.name s = false
  | [] => ⟨fun j b h => by simp [posB] at h, fun b h => by simp at h⟩
  | a :: l => by
    have ih := posB_spec s l
    by_cases h : ltS a.name s = true
    · have e : posB (a :: l) s = posB l s + 1 := by simp [posB, List.takeWhile_cons, h]
      rw [e]
      refine ⟨fun j b hj hb => ?_, fun b hb => ih.2 b (by simpa using hb)⟩
      cases j with
      | zero => simp only [List.getElem?_cons_zero, Option.some.injEq] at hb; subst hb; exact h
      | succ j => exact ih.1 j b (by omega) (by simpa using hb)
    · have e : posB (a :: l) s = 0 := by simp [posB, List.takeWhile_cons, h]
      rw [e]
      refine ⟨fun j b hj => absurd hj (by omega), fun b hb => ?_⟩
      simp only [List.getElem?_cons_zero, Option.some.injEq] at hb; subst hb; simpa using h
theorem hasB_pos {l : List Bd} (h : RisB l) (s : ByteArray) : hasB l s = (match l[posB l s]? with | some b => decide (b.name = s) | none => false) := by
  obtain ⟨hp, hq⟩ := posB_spec s l
  rw [Bool.eq_iff_iff]
  constructor
  · intro ha
    simp only [hasB, List.any_eq_true, decide_eq_true_eq] at ha
    obtain ⟨b, hb, rfl⟩ := ha
    obtain ⟨j, hj⟩ := List.getElem?_of_mem hb
    have hjl := (List.getElem?_eq_some_iff.1 hj).1
    have e : j = posB l b.name := by
      rcases Nat.lt_trichotomy j (posB l b.name) with h1 | h1 | h1
      · have := hp j b h1 hj; rw [ltS_irrefl] at this; cases this
      · exact h1
      · obtain ⟨x, hx⟩ := get_of_lt (l := l) (k := posB l b.name) (by omega)
        have h2 := h.lt h1 hx hj
        rw [hq x hx] at h2; cases h2
    rw [← e, hj]; simp
  · intro ha
    split at ha
    · rename_i b hb
      simp only [decide_eq_true_eq] at ha
      simp only [hasB, List.any_eq_true, decide_eq_true_eq]
      exact ⟨b, List.mem_of_getElem? hb, ha⟩
    · cases ha
end Go.Proofs.YtdecgkhdbfgldaaGreat

set_option linter.unusedVariables false
set_option linter.unusedSimpArgs false
set_option maxRecDepth 8000
namespace Go.Proofs.YtdecgkhdbfgldaaGreat
open Go
def zeroTm : Tm := ⟨0, ⟨#[]⟩, 0, []⟩
theorem zero_le (f : Bool) : Le (.agg [iv 0, sv ⟨#[]⟩, iv 0, .imm (.slice none 0 0)]) (.agg (lift f (tmD zeroTm))) := .agg (.cons .refl (.cons .refl (.cons .refl (.cons .nil .nil))))
theorem lookB_has (l : List Bd) (s : ByteArray) (hr : RisB l) : hasB l s = (lookB l s).isSome ∧ (hasB l s = true → ∃ b, l[posB l s]? = some b ∧ b.name = s ∧ lookB l s = some b.t) := by
  have key : ∀ l : List Bd, hasB l s = (lookB l s).isSome := fun l => by
    induction l with
    | nil => rfl
    | cons a l ih =>
      by_cases h : a.name = s
      · simp [hasB, lookB, List.find?_cons, h]
      · simp only [hasB, lookB, List.any_cons, List.find?_cons, h, decide_false, Bool.false_or]
        exact ih
  refine ⟨key l, fun h => ?_⟩
  have h2 := hasB_pos hr s
  rw [h] at h2
  cases hb : l[posB l s]? with
  | none => rw [hb] at h2; cases h2
  | some b =>
    rw [hb] at h2
    have hn : b.name = s := of_decide_eq_true h2.symm
    refine ⟨b, rfl, hn, ?_⟩
    have huniq : ∀ x ∈ l, x.name = s → x = b := fun x hx hxs => by
      obtain ⟨j, hj⟩ := List.getElem?_of_mem hx
      rcases Nat.lt_trichotomy j (posB l s) with h1 | h1 | h1
      · have := hr.lt h1 hj hb; rw [hxs, hn, ltS_irrefl] at this; cases this
      · rw [h1, hb] at hj; cases hj; rfl
      · have := hr.lt h1 hb hj; rw [hxs, hn, ltS_irrefl] at this; cases this
    cases hf : l.find? (fun b => decide (b.name = s)) with
    | none =>
      have := List.find?_eq_none.1 hf b (List.mem_of_getElem? hb)
      simp [hn] at this
    | some x =>
      have h3 := List.find?_some hf
      have h4 := List.mem_of_find?_eq_some hf
      simp only [decide_eq_true_eq] at h3
      rw [huniq x h4 h3] at hf
      simp [lookB, hf]
theorem lookB_none {l : List Bd} {s : ByteArray} (hr : RisB l) (h : hasB l s = false) : lookB l s = none := by
  have h2 := (lookB_has l s hr).1
  rw [h] at h2
  cases h3 : lookB l s with
  | none => rfl
  | some t => rw [h3] at h2; cases h2
structure BOk (l : List Bd) : Prop where
  ris : RisB l
  len : l.length ≤ 1000
  el : ∀ b ∈ l, b.wf ∧ mayT b.t = true
def gB (l : List Bd) (s : ByteArray) : Tm := (lookB l s).getD ⟨1, s, 0, []⟩
theorem lookB_mem {l : List Bd} {s : ByteArray} {t : Tm} (h : lookB l s = some t) : ∃ b ∈ l, b.name = s ∧ b.t = t := by
  simp only [lookB, Option.map_eq_some_iff] at h
  obtain ⟨b, h1, h2⟩ := h
  have h3 := List.find?_some h1
  simp only [decide_eq_true_eq] at h3
  exact ⟨b, List.mem_of_find?_eq_some h1, h3, h2⟩
theorem BOk.look {l : List Bd} (h : BOk l) {s : ByteArray} {t : Tm} (ht : lookB l s = some t) : t.wf ∧ mayT t = true := by
  obtain ⟨b, h1, _, rfl⟩ := lookB_mem ht
  exact ⟨(h.el b h1).1.2, (h.el b h1).2⟩
end Go.Proofs.YtdecgkhdbfgldaaGreat

set_option linter.unusedVariables false
set_option linter.unusedSimpArgs false
set_option maxRecDepth 8000
namespace Go.Proofs.YtdecgkhdbfgldaaGreat
open Go
def putT (l : List Bd) (t : Tm) : Tm := turnT (gB l) 5 t
theorem turnT_wf (g : ByteArray → Tm) (hg : ∀ s, s.size ≤ 140737488351232 → (g s).wf) : ∀ (d : Nat) (t : Tm), t.wf → (turnT g d t).wf
  | 0, t, h => h
  | d + 1, t, h => by
    simp only [turnT]
    split
    · exact hg _ h.2.1
    · refine ⟨h.1, h.2.1, h.2.2.1, by simpa using h.2.2.2.1, ?_⟩
      have key : ∀ ts : List Tm, Tm.wfs ts → Tm.wfs (ts.map (turnT g d)) := fun ts => by
        induction ts with
        | nil => intro _; trivial
        | cons a ts ih =>
          intro h
          simp only [Tm.wfs, List.map_cons] at h ⊢
          exact ⟨(Tm.wf0_iff _).2 (turnT_wf g hg d a ((Tm.wf0_iff _).1 h.1)), ih h.2⟩
      exact key _ h.2.2.2.2
theorem varTm_wf {s : ByteArray} (h : s.size ≤ 140737488351232) : (Tm.mk 1 s 0 []).wf := ⟨⟨by simp, by simp⟩, h, ⟨by simp, by simp⟩, Nat.zero_le _, trivial⟩
theorem gB_wf {l : List Bd} (hl : BOk l) (s : ByteArray) (h : s.size ≤ 140737488351232) : (gB l s).wf := by
  unfold gB
  cases hh : lookB l s with
  | none => exact varTm_wf h
  | some t => exact (hl.look hh).1
theorem putT_wf {l : List Bd} (hl : BOk l) {t : Tm} (ht : t.wf) : (putT l t).wf := turnT_wf _ (gB_wf hl) _ _ ht
def intoT (l : List Bd) (t : Tm) : Tm := if mayT (putT l t) = true then putT l t else zeroTm
def intoE (l : List Bd) (t : Tm) : Int := if mayT (putT l t) = true then 0 else 2
theorem into_may {l : List Bd} {t : Tm} (h : intoE l t = 0) : mayT (putT l t) = true ∧ intoT l t = putT l t := by
  unfold intoE at h
  split at h
  · rename_i hm; exact ⟨hm, by rw [intoT, if_pos hm]⟩
  · cases h
end Go.Proofs.YtdecgkhdbfgldaaGreat

set_option linter.unusedVariables false
set_option linter.unusedSimpArgs false
set_option maxRecDepth 8000
namespace Go.Proofs.YtdecgkhdbfgldaaGreat
open Go
theorem wfs_of : ∀ {ts : List Tm}, (∀ t ∈ ts, t.wf) → Tm.wfs ts
  | [], _ => trivial
  | t :: ts, h => ⟨(Tm.wf0_iff t).2 (h t (by simp)), wfs_of (fun u hu => h u (by simp [hu]))⟩
end Go.Proofs.YtdecgkhdbfgldaaGreat

set_option linter.unusedVariables false
set_option linter.unusedSimpArgs false
set_option maxRecDepth 8000
namespace Go.Proofs.YtdecgkhdbfgldaaGreat
open Go
def goodB (one l : List Bd) : Bool := l.all (fun b => decide (intoE one b.t = 0))
def subB (one l : List Bd) : List Bd := l.map (fun b => ⟨b.name, putT one b.t⟩)
def standL (l : List Bd) (name : ByteArray) (t : Tm) : List Bd := if 16 ≤ l.length ∨ goodB [⟨name, t⟩] l = false then [] else ins (subB [⟨name, t⟩] l) (posB l name) ⟨name, t⟩
def standE (l : List Bd) (name : ByteArray) (t : Tm) : Int := if 16 ≤ l.length ∨ goodB [⟨name, t⟩] l = false then 2 else 0
theorem subB_pos (one : List Bd) (s : ByteArray) : ∀ l : List Bd, posB (subB one l) s = posB l s
  | [] => rfl
  | b :: l => by
    have ih := subB_pos one s l
    simp only [posB, subB] at ih
    by_cases h : ltS b.name s = true
    · simp [posB, subB, List.takeWhile_cons, h, ih]
    · simp [posB, subB, List.takeWhile_cons, h]
theorem subB_ris (one : List Bd) {l : List Bd} (h : RisB l) : RisB (subB one l) := List.pairwise_map.2 (h.imp fun h => h)
theorem subB_length (one l : List Bd) : (subB one l).length = l.length := by simp [subB]
theorem one_bok {name : ByteArray} {t : Tm} (hn : name.size ≤ 140737488351232) (ht : t.wf) (hm : mayT t = true) : BOk [⟨name, t⟩] := ⟨List.pairwise_singleton _ _, by simp, fun b hb => by simp only [List.mem_singleton] at hb; subst hb; exact ⟨⟨hn, ht⟩, hm⟩⟩
end Go.Proofs.YtdecgkhdbfgldaaGreat

set_option linter.unusedVariables false
set_option linter.unusedSimpArgs false
set_option maxRecDepth 8000
namespace Go.Proofs.YtdecgkhdbfgldaaGreat
open Go
theorem ins_ris {x : List Bd} {y : Bd} (hr : RisB x) (hh : hasB x y.name = false) : RisB (ins x (posB x y.name) y) := by
  obtain ⟨h1, h2⟩ := posB_spec y.name x
  have hno : ∀ b ∈ x, b.name ≠ y.name := fun b hb e => by
    have : hasB x y.name = true := List.any_eq_true.2 ⟨b, hb, by simpa using e⟩
    rw [hh] at this; cases this
  have hle := posB_le x y.name
  unfold RisB ins
  rw [List.pairwise_append]
  refine ⟨List.Pairwise.sublist (List.take_sublist _ _) hr, List.pairwise_cons.2 ⟨fun b hb => ?_, List.Pairwise.sublist (List.drop_sublist _ _) hr⟩, fun a ha b hb => ?_⟩
  · obtain ⟨j, hj⟩ := List.getElem?_of_mem hb
    rw [List.getElem?_drop] at hj
    have hpos : posB x y.name < x.length := by have := (List.getElem?_eq_some_iff.1 hj).1; omega
    obtain ⟨c, hc⟩ := get_of_lt (l := x) (k := posB x y.name) hpos
    have h3 := h2 c hc
    have h4 : ltS y.name c.name = true := by
      rcases ltS_tri c.name y.name with h | h | h
      · rw [h] at h3; cases h3
      · exact absurd h (hno c (List.mem_of_getElem? hc))
      · exact h
    rcases Nat.eq_zero_or_pos j with rfl | hjp
    · rw [Nat.add_zero, hc] at hj; cases hj; exact h4
    · exact ltS_trans h4 (hr.lt (by omega) hc hj)
  · obtain ⟨i, hi⟩ := List.getElem?_of_mem ha
    rw [List.getElem?_take] at hi
    split at hi
    · rename_i hip
      have h3 := h1 i a hip hi
      rcases List.mem_cons.1 hb with rfl | hb
      · exact h3
      · obtain ⟨j, hj⟩ := List.getElem?_of_mem hb
        rw [List.getElem?_drop] at hj
        exact hr.lt (by omega) hi hj
    · cases hi
end Go.Proofs.YtdecgkhdbfgldaaGreat

set_option linter.unusedVariables false
set_option linter.unusedSimpArgs false
set_option maxRecDepth 8000
namespace Go.Proofs.YtdecgkhdbfgldaaGreat
open Go
def occB (t : Tm) (s : ByteArray) : Bool := (noteL 5 [t]).any (fun n => decide (n = s))
def standsL (l : List Bd) (s : ByteArray) (t : Tm) : List Bd := if occB t s = true then [] else standL l s t
def standsE (l : List Bd) (s : ByteArray) (t : Tm) : Int := if occB t s = true then 3 else standE l s t
end Go.Proofs.YtdecgkhdbfgldaaGreat

set_option linter.unusedVariables false
set_option linter.unusedSimpArgs false
set_option maxRecDepth 8000
namespace Go.Proofs.YtdecgkhdbfgldaaGreat
open Go
def argsB (a b : Tm) : Bool := decide (a.kind = b.kind) && decide (a.name = b.name) && decide (a.n = b.n) && decide (a.args.length = b.args.length)
def argsL (a b : Tm) : List (Tm × Tm) := if argsB a b = true then a.args.zip b.args else []
theorem flat_le {α : Type} (rs : List (List α)) (k : Nat) : (rs.take k).flatten.length ≤ rs.flatten.length := by
  have := congrArg (fun l : List (List α) => l.flatten.length) (List.take_append_drop k rs)
  simp only [List.flatten_append, List.length_append] at this
  omega
end Go.Proofs.YtdecgkhdbfgldaaGreat

set_option linter.unusedVariables false
set_option linter.unusedSimpArgs false
set_option maxRecDepth 8000
namespace Go.Proofs.YtdecgkhdbfgldaaGreat
open Go
def oneR (l : List Bd) (p : Tm × Tm) : List Bd × List (Tm × Tm) × Int :=
  if intoE l p.1 ≠ 0 then ([], [], intoE l p.1) else
  if intoE l p.2 ≠ 0 then ([], [], intoE l p.2) else
  if (putT l p.1).kind = 1 ∧ (putT l p.2).kind = 1 ∧ (putT l p.1).name = (putT l p.2).name then (l, [], 0) else
  if (putT l p.1).kind = 1 ∧ ((putT l p.2).kind ≠ 1 ∨ ltS (putT l p.2).name (putT l p.1).name = true) then (standsL l (putT l p.1).name (putT l p.2), [], standsE l (putT l p.1).name (putT l p.2)) else
  if (putT l p.2).kind = 1 then (standsL l (putT l p.2).name (putT l p.1), [], standsE l (putT l p.2).name (putT l p.1)) else
  if argsB (putT l p.1) (putT l p.2) = true then (l, argsL (putT l p.1) (putT l p.2), 0) else ([], [], 3)
end Go.Proofs.YtdecgkhdbfgldaaGreat

set_option linter.unusedVariables false
set_option linter.unusedSimpArgs false
namespace Go.Proofs.YtdecgkhdbfgldaaGreat
open Go
mutual
def Tm.sub (g : ByteArray → Tm) : Tm → Tm
  | ⟨k, nm, n, l0⟩ => if k = 1 then g nm else ⟨k, nm, n, Tm.subs g l0⟩
def Tm.subs (g : ByteArray → Tm) : List Tm → List Tm
  | [] => []
  | t :: ts => Tm.sub g t :: Tm.subs g ts
end
mutual
def Tm.occ (y : ByteArray) : Tm → Prop
  | ⟨k, nm, _, l0⟩ => (k = 1 ∧ nm = y) ∨ Tm.occs y l0
def Tm.occs (y : ByteArray) : List Tm → Prop
  | [] => False
  | t :: ts => Tm.occ y t ∨ Tm.occs y ts
end
mutual
def Tm.sz : Tm → Nat
  | ⟨_, _, _, l0⟩ => 1 + Tm.szs l0
def Tm.szs : List Tm → Nat
  | [] => 0
  | t :: ts => Tm.sz t + Tm.szs ts
end
mutual
def Tm.shp : Tm → Prop
  | ⟨k, nm, n, l0⟩ => ((k = 1 ∧ varB nm = true ∧ n = 0 ∧ l0 = []) ∨ (k = 2 ∧ numB n = true ∧ nm.size = 0 ∧ l0 = []) ∨ (k = 3 ∧ nameB nm = true ∧ n = 0 ∧ l0.length ≤ 4)) ∧ Tm.shps l0
def Tm.shps : List Tm → Prop
  | [] => True
  | t :: ts => Tm.shp t ∧ Tm.shps ts
end
theorem Tm.subs_map (g : ByteArray → Tm) : ∀ l, Tm.subs g l = l.map (Tm.sub g)
  | [] => by rw [Tm.subs]; rfl
  | t :: ts => by rw [Tm.subs, Tm.subs_map g ts]; rfl
theorem Tm.sub_eq (g : ByteArray → Tm) (t : Tm) : t.sub g = if t.kind = 1 then g t.name else ⟨t.kind, t.name, t.n, t.args.map (Tm.sub g)⟩ := by
  cases t; simp only [Tm.sub, Tm.subs_map]
theorem Tm.occs_iff (y : ByteArray) : ∀ l, Tm.occs y l ↔ ∃ u ∈ l, Tm.occ y u
  | [] => by simp [Tm.occs]
  | t :: ts => by simp [Tm.occs, Tm.occs_iff y ts]
theorem Tm.occ_iff (y : ByteArray) (t : Tm) : t.occ y ↔ (t.kind = 1 ∧ t.name = y) ∨ ∃ u ∈ t.args, Tm.occ y u := by
  cases t; simp only [Tm.occ, Tm.occs_iff]
theorem Tm.szs_sum : ∀ l, Tm.szs l = (l.map Tm.sz).sum
  | [] => by simp [Tm.szs]
  | t :: ts => by simp [Tm.szs, Tm.szs_sum ts]
theorem Tm.sz_eq (t : Tm) : t.sz = 1 + (t.args.map Tm.sz).sum := by cases t; simp only [Tm.sz, Tm.szs_sum]
theorem Tm.sz_pos (t : Tm) : 1 ≤ t.sz := by rw [Tm.sz_eq]; omega
theorem Tm.shps_iff : ∀ l, Tm.shps l ↔ ∀ u ∈ l, Tm.shp u
  | [] => by simp [Tm.shps]
  | t :: ts => by simp [Tm.shps, Tm.shps_iff ts]
def Tm.top (t : Tm) : Prop := (t.kind = 1 ∧ varB t.name = true ∧ t.n = 0 ∧ t.args = []) ∨ (t.kind = 2 ∧ numB t.n = true ∧ t.name.size = 0 ∧ t.args = []) ∨ (t.kind = 3 ∧ nameB t.name = true ∧ t.n = 0 ∧ t.args.length ≤ 4)
theorem Tm.shp_iff (t : Tm) : t.shp ↔ t.top ∧ ∀ u ∈ t.args, Tm.shp u := by cases t; simp only [Tm.shp, Tm.shps_iff, Tm.top]
theorem Tm.ind {P : Tm → Prop} (h : ∀ t : Tm, (∀ u ∈ t.args, P u) → P t) (t : Tm) : P t :=
  Tm.rec (motive_1 := P) (motive_2 := fun ts => ∀ u ∈ ts, P u) (fun k nm n l0 ih => h ⟨k, nm, n, l0⟩ ih) (fun u hu => by cases hu) (fun t ts h1 h2 u hu => by
    rcases List.mem_cons.1 hu with e | hu
    · exact e ▸ h1
    · exact h2 u hu) t
theorem Tm.shp.arg {t u : Tm} (h : t.shp) (hu : u ∈ t.args) : u.shp := ((Tm.shp_iff t).1 h).2 u hu
theorem Tm.shp.var {t : Tm} (h : t.shp) (hk : t.kind = 1) : t = ⟨1, t.name, 0, []⟩ ∧ varB t.name = true := by
  have := ((Tm.shp_iff t).1 h).1
  cases t
  simp only [Tm.top] at this hk ⊢
  subst hk
  rcases this with ⟨_, h2, h3, h4⟩ | ⟨h1, _⟩ | ⟨h1, _⟩
  · subst h3 h4; exact ⟨rfl, h2⟩
  · cases h1
  · cases h1
theorem turn_sub (g : ByteArray → Tm) : ∀ (d : Nat) (t : Tm), dle d t → turnT g d t = t.sub g
  | 0, t, h => h.elim
  | d + 1, t, h => by
    rw [turnT, Tm.sub_eq]
    split
    · rfl
    · congr 1
      exact List.map_congr_left fun u hu => turn_sub g d u (h u hu)
theorem note_occ (y : ByteArray) : ∀ (d : Nat) (t : Tm), dle d t → (y ∈ noteS d t [] ↔ t.occ y)
  | 0, t, h => h.elim
  | d + 1, t, h => by
    rw [noteS, noteL_mem d y (noteS_mem d y), Tm.occ_iff]
    have e : (∃ u, u ∈ t.args ∧ y ∈ noteS d u []) ↔ ∃ u ∈ t.args, Tm.occ y u := by
      constructor
      · rintro ⟨u, hu, hy⟩; exact ⟨u, hu, (note_occ y d u (h u hu)).1 hy⟩
      · rintro ⟨u, hu, hy⟩; exact ⟨u, hu, (note_occ y d u (h u hu)).2 hy⟩
    rw [e]
    split
    · rename_i hk; simp [hk, eq_comm]
    · rename_i hk; simp [hk]
theorem dle_mono : ∀ (d e : Nat) (t : Tm), d ≤ e → dle d t → dle e t
  | 0, _, t, _, h => h.elim
  | d + 1, 0, t, h, _ => by omega
  | d + 1, e + 1, t, h, hd => fun u hu => dle_mono d e u (by omega) (hd u hu)
theorem mayL_fwd (d : Nat) (ih : ∀ (t : Tm) (n : Int), 0 ≤ n → (mayS d t n).1 = true → t.shp ∧ dle d t ∧ (mayS d t n).2 = n - t.sz ∧ (t.sz : Int) ≤ n) : ∀ (l : List Tm) (n : Int), 0 ≤ n → (mayL (mayS d) l n).1 = true → (∀ u ∈ l, u.shp ∧ dle d u) ∧ (mayL (mayS d) l n).2 = n - ((l.map Tm.sz).sum : Nat) ∧ (((l.map Tm.sz).sum : Nat) : Int) ≤ n
  | [], n, hn, _ => by simp [mayL]; omega
  | a :: l, n, hn, h => by
    simp only [mayL] at h ⊢
    split at h
    · rename_i hb
      obtain ⟨h1, h2, h3, h4⟩ := ih a n hn hb
      obtain ⟨h5, h6, h7⟩ := mayL_fwd d ih l (mayS d a n).2 (by omega) h
      rw [if_pos hb]
      refine ⟨fun u hu => ?_, ?_, ?_⟩
      · rcases List.mem_cons.1 hu with rfl | hu
        · exact ⟨h1, h2⟩
        · exact h5 u hu
      · rw [h6, h3]; simp only [List.map_cons, List.sum_cons]; omega
      · simp only [List.map_cons, List.sum_cons]; omega
    · cases h
theorem mayS_fwd : ∀ (d : Nat) (t : Tm) (n : Int), 0 ≤ n → (mayS d t n).1 = true → t.shp ∧ dle d t ∧ (mayS d t n).2 = n - t.sz ∧ (t.sz : Int) ≤ n
  | 0, t, n, _, h => by simp [mayS] at h
  | d + 1, t, n, hn0, h => by
    rw [Tm.shp_iff, Tm.sz_eq]
    have e0 : ∀ l : List Tm, l.length = 0 → l = [] := fun l h => List.eq_nil_of_length_eq_zero h
    simp only [mayS] at h ⊢
    split at h
    · cases h
    rename_i hn
    rw [if_neg hn]
    split at h
    · rename_i hk
      rw [if_pos hk]
      simp only [Bool.and_eq_true, decide_eq_true_eq] at h
      have := e0 _ h.2
      refine ⟨⟨.inl ⟨hk, h.1.1, h.1.2, this⟩, by simp [this]⟩, fun u hu => by simp [this] at hu, ?_, ?_⟩ <;> simp [this] <;> omega
    rename_i hk1
    rw [if_neg hk1]
    split at h
    · rename_i hk
      rw [if_pos hk]
      simp only [Bool.and_eq_true, decide_eq_true_eq] at h
      have := e0 _ h.2
      refine ⟨⟨.inr (.inl ⟨hk, h.1.1, h.1.2, this⟩), by simp [this]⟩, fun u hu => by simp [this] at hu, ?_, ?_⟩ <;> simp [this] <;> omega
    rename_i hk2
    rw [if_neg hk2]
    split at h
    · rename_i hk
      rw [if_pos hk]
      split at h
      · rename_i hc
        rw [if_pos hc]
        obtain ⟨h5, h6, h7⟩ := mayL_fwd d (mayS_fwd d) t.args (n - 1) (by omega) h
        simp only [Bool.and_eq_true, decide_eq_true_eq] at hc
        refine ⟨⟨.inr (.inr ⟨hk, hc.1.1, hc.1.2, hc.2⟩), fun u hu => (h5 u hu).1⟩, fun u hu => (h5 u hu).2, ?_, ?_⟩
        · rw [h6]; omega
        · omega
      · cases h
    · cases h
theorem mayL_bwd (d : Nat) (ih : ∀ (t : Tm) (n : Int), t.shp → dle d t → (t.sz : Int) ≤ n → mayS d t n = (true, n - t.sz)) : ∀ (l : List Tm) (n : Int), (∀ u ∈ l, u.shp ∧ dle d u) → (((l.map Tm.sz).sum : Nat) : Int) ≤ n → mayL (mayS d) l n = (true, n - ((l.map Tm.sz).sum : Nat))
  | [], n, _, _ => by simp [mayL]
  | a :: l, n, h, hn => by
    simp only [List.map_cons, List.sum_cons] at hn ⊢
    have h1 := ih a n (h a (by simp)).1 (h a (by simp)).2 (by omega)
    have h2 := mayL_bwd d ih l (n - a.sz) (fun u hu => h u (by simp [hu])) (by omega)
    simp only [mayL, h1, if_true, h2]
    congr 1; omega
theorem mayS_bwd : ∀ (d : Nat) (t : Tm) (n : Int), t.shp → dle d t → (t.sz : Int) ≤ n → mayS d t n = (true, n - t.sz)
  | 0, t, n, _, h, _ => h.elim
  | d + 1, t, n, hs, hd, hn => by
    rw [Tm.shp_iff] at hs
    rw [Tm.sz_eq] at hn ⊢
    obtain ⟨ht, hs⟩ := hs
    simp only [mayS]
    rw [if_neg (by omega)]
    rcases ht with ⟨h1, h2, h3, h4⟩ | ⟨h1, h2, h3, h4⟩ | ⟨h1, h2, h3, h4⟩
    · rw [if_pos h1, h2, h3, h4]; simp
    · rw [if_neg (by omega), if_pos h1, h2, h3, h4]; simp
    · rw [if_neg (by omega), if_neg (by omega), if_pos h1, if_pos (by simp [h2, h3, h4])]
      rw [mayL_bwd d (mayS_bwd d) t.args (n - 1) (fun u hu => ⟨hs u hu, hd u hu⟩) (by omega)]
      congr 1; omega
theorem mayT_iff (t : Tm) : mayT t = true ↔ t.shp ∧ dle 5 t ∧ t.sz ≤ 24 := by
  constructor
  · intro h
    obtain ⟨h1, h2, h3, h4⟩ := mayS_fwd 5 t 24 (by omega) h
    exact ⟨h1, h2, by omega⟩
  · rintro ⟨h1, h2, h3⟩
    show (mayS 5 t 24).1 = true
    rw [mayS_bwd 5 t 24 h1 h2 (by omega)]
def varT (s : ByteArray) : Tm := ⟨1, s, 0, []⟩
theorem sub_congr {g h : ByteArray → Tm} (t : Tm) : (∀ y, t.occ y → g y = h y) → t.sub g = t.sub h := by
  refine Tm.ind (P := fun t => (∀ y, t.occ y → g y = h y) → t.sub g = t.sub h) (fun t ih hy => ?_) t
  rw [Tm.sub_eq, Tm.sub_eq]
  split
  · rename_i hk; exact hy _ ((Tm.occ_iff _ _).2 (.inl ⟨hk, rfl⟩))
  · congr 1
    exact List.map_congr_left fun u hu => ih u hu fun y hu2 => hy y ((Tm.occ_iff _ _).2 (.inr ⟨u, hu, hu2⟩))
theorem sub_varT {t : Tm} (hs : t.shp) : t.sub varT = t := by
  refine Tm.ind (P := fun t => t.shp → t.sub varT = t) (fun t ih hs => ?_) t hs
  rw [Tm.sub_eq]
  split
  · rename_i hk; rw [(hs.var hk).1]; rfl
  · have : t.args.map (Tm.sub varT) = t.args := by
      have h2 : t.args.map (Tm.sub varT) = t.args.map id := List.map_congr_left fun u hu => ih u hu (hs.arg hu)
      rw [h2, List.map_id]
    rw [this]
    cases t; rfl
theorem sub_id {g : ByteArray → Tm} {t : Tm} (hs : t.shp) (h : ∀ y, t.occ y → g y = varT y) : t.sub g = t := by
  rw [sub_congr t h, sub_varT hs]
theorem occ_sub (g : ByteArray → Tm) (y : ByteArray) (t : Tm) (hs : t.shp) : (t.sub g).occ y ↔ ∃ x, t.occ x ∧ (g x).occ y := by
  refine Tm.ind (P := fun t => t.shp → ((t.sub g).occ y ↔ ∃ x, t.occ x ∧ (g x).occ y)) (fun t ih hs => ?_) t hs
  rw [Tm.sub_eq]
  split
  · rename_i hk
    constructor
    · intro h; exact ⟨t.name, (Tm.occ_iff _ _).2 (.inl ⟨hk, rfl⟩), h⟩
    · rintro ⟨x, hx, h⟩
      rw [Tm.occ_iff] at hx
      rcases hx with ⟨_, rfl⟩ | ⟨u, hu, _⟩
      · exact h
      · rw [(hs.var hk).1] at hu; cases hu
  · rename_i hk
    rw [Tm.occ_iff]
    constructor
    · rintro (⟨h, _⟩ | ⟨u, hu, h⟩)
      · exact absurd h hk
      · obtain ⟨v, hv, rfl⟩ := List.mem_map.1 hu
        obtain ⟨x, hx, h2⟩ := (ih v hv (hs.arg hv)).1 h
        exact ⟨x, (Tm.occ_iff _ _).2 (.inr ⟨v, hv, hx⟩), h2⟩
    · rintro ⟨x, hx, h⟩
      rw [Tm.occ_iff] at hx
      rcases hx with ⟨h, _⟩ | ⟨u, hu, h2⟩
      · exact absurd h hk
      · exact .inr ⟨u.sub g, List.mem_map.2 ⟨u, hu, rfl⟩, (ih u hu (hs.arg hu)).2 ⟨x, h2, h⟩⟩
theorem shp_sub {g : ByteArray → Tm} {t : Tm} (hs : t.shp) (h : ∀ y, t.occ y → (g y).shp) : (t.sub g).shp := by
  refine Tm.ind (P := fun t => t.shp → (∀ y, t.occ y → (g y).shp) → (t.sub g).shp) (fun t ih hs h => ?_) t hs h
  rw [Tm.sub_eq]
  split
  · rename_i hk; exact h _ ((Tm.occ_iff _ _).2 (.inl ⟨hk, rfl⟩))
  · rename_i hk
    rw [Tm.shp_iff] at hs ⊢
    refine ⟨?_, fun u hu => ?_⟩
    · have := hs.1
      simp only [Tm.top, List.length_map, List.map_eq_nil_iff] at this ⊢
      exact this
    · obtain ⟨v, hv, rfl⟩ := List.mem_map.1 hu
      exact ih v hv (hs.2 v hv) fun y hy => h y ((Tm.occ_iff _ _).2 (.inr ⟨v, hv, hy⟩))
theorem sz_occ {x : ByteArray} (g : ByteArray → Tm) {t : Tm} (hs : t.shp) (h : t.occ x) : (g x).sz ≤ (t.sub g).sz ∧ (t.kind ≠ 1 → (g x).sz < (t.sub g).sz) := by
  refine Tm.ind (P := fun t => t.shp → t.occ x → (g x).sz ≤ (t.sub g).sz ∧ (t.kind ≠ 1 → (g x).sz < (t.sub g).sz)) (fun t ih hs h => ?_) t hs h
  rw [Tm.occ_iff] at h
  rw [Tm.sub_eq]
  split
  · rename_i hk
    refine ⟨?_, fun h2 => absurd hk h2⟩
    rcases h with ⟨_, rfl⟩ | ⟨u, hu, _⟩
    · exact Nat.le_refl _
    · rw [(hs.var hk).1] at hu; cases hu
  · rename_i hk
    rcases h with ⟨h, _⟩ | ⟨u, hu, h⟩
    · exact absurd h hk
    · have h1 := (ih u hu (hs.arg hu) h).1
      have h2 : (u.sub g).sz < (Tm.mk t.kind t.name t.n (t.args.map (Tm.sub g))).sz := by
        rw [Tm.sz_eq (Tm.mk _ _ _ _)]
        simp only [List.map_map]
        obtain ⟨i, hi⟩ := List.getElem?_of_mem hu
        have := sum_split (l := t.args) (k := i) (u := u) (Tm.sz ∘ Tm.sub g) hi
        simp only [Function.comp] at this ⊢
        omega
      exact ⟨by omega, fun _ => by omega⟩
end Go.Proofs.YtdecgkhdbfgldaaGreat

set_option linter.unusedVariables false
set_option linter.unusedSimpArgs false
namespace Go.Proofs.YtdecgkhdbfgldaaGreat
open Go
structure GB (l : List Bd) : Prop where
  len : l.length ≤ 16
  ris : RisB l
  el : ∀ b ∈ l, b.wf ∧ varB b.name = true ∧ mayT b.t = true
  idem : ∀ b ∈ l, ∀ y, b.t.occ y → hasB l y = false
theorem GB.bok {l : List Bd} (h : GB l) : BOk l := ⟨h.ris, by have := h.len; omega, fun b hb => ⟨(h.el b hb).1, (h.el b hb).2.2⟩⟩
theorem hasB_iff (l : List Bd) (y : ByteArray) : hasB l y = true ↔ ∃ b ∈ l, b.name = y := by simp [hasB]
theorem hasB_no (l : List Bd) (y : ByteArray) : hasB l y = false ↔ ∀ b ∈ l, b.name ≠ y := by simp [hasB]
theorem may_dle {t : Tm} (h : mayT t = true) : dle 5 t := ((mayT_iff t).1 h).2.1
theorem may_shp {t : Tm} (h : mayT t = true) : t.shp := ((mayT_iff t).1 h).1
theorem note5 {t : Tm} (h : dle 5 t) (y : ByteArray) : y ∈ noteL 5 [t] ↔ t.occ y := note_occ y 5 t h
theorem gB_mem {l : List Bd} (h : RisB l) {b : Bd} (hb : b ∈ l) : gB l b.name = b.t := by
  have key : ∀ l : List Bd, RisB l → b ∈ l → l.find? (fun c => decide (c.name = b.name)) = some b := fun l => by
    induction l with
    | nil => intro _ h; cases h
    | cons a l ih =>
      intro hr hm
      rcases List.mem_cons.1 hm with rfl | hm
      · simp
      · have h1 := List.pairwise_cons.1 hr
        have h2 := h1.1 b hm
        have hne : a.name ≠ b.name := fun e => by rw [e, ltS_irrefl] at h2; cases h2
        rw [List.find?_cons_of_neg (by simpa using hne)]
        exact ih h1.2 hm
  rw [gB, lookB, key l h hb]; rfl
theorem gB_none {l : List Bd} (h : RisB l) {y : ByteArray} (hy : hasB l y = false) : gB l y = varT y := by
  rw [gB, lookB_none h hy]; rfl
theorem gB_cases {l : List Bd} (h : RisB l) (y : ByteArray) : (∃ b ∈ l, b.name = y ∧ gB l y = b.t) ∨ hasB l y = false ∧ gB l y = varT y := by
  cases hc : hasB l y with
  | false => exact .inr ⟨rfl, gB_none h hc⟩
  | true =>
    obtain ⟨b, hb, rfl⟩ := (hasB_iff l y).1 hc
    exact .inl ⟨b, hb, rfl, gB_mem h hb⟩
theorem putT_sub {t : Tm} (h : dle 5 t) (l : List Bd) : putT l t = t.sub (gB l) := turn_sub _ 5 t h
theorem varT_sub (g : ByteArray → Tm) (y : ByteArray) : (varT y).sub g = g y := by rw [Tm.sub_eq]; rfl
theorem varT_occ (x y : ByteArray) : (varT x).occ y ↔ x = y := by rw [Tm.occ_iff]; simp [varT]
theorem gB_occ {l : List Bd} (h : GB l) {x y : ByteArray} (ho : (gB l x).occ y) : hasB l y = false := by
  rcases gB_cases h.ris x with ⟨b, hb, _, e⟩ | ⟨hn, e⟩
  · rw [e] at ho; exact h.idem b hb y ho
  · rw [e, varT_occ] at ho; rw [← ho]; exact hn
theorem gB_shp {l : List Bd} (h : GB l) {x : ByteArray} (hx : varB x = true) : (gB l x).shp := by
  rcases gB_cases h.ris x with ⟨b, hb, _, e⟩ | ⟨hn, e⟩
  · rw [e]; exact may_shp (h.el b hb).2.2
  · rw [e, Tm.shp_iff]; exact ⟨.inl ⟨rfl, hx, rfl, rfl⟩, fun u hu => by cases hu⟩
theorem occ_var {t : Tm} (hs : t.shp) {y : ByteArray} (h : t.occ y) : varB y = true := by
  refine Tm.ind (P := fun t => t.shp → t.occ y → varB y = true) (fun t ih hs h => ?_) t hs h
  rw [Tm.occ_iff] at h
  rcases h with ⟨h1, rfl⟩ | ⟨u, hu, h2⟩
  · exact (hs.var h1).2
  · exact ih u hu (hs.arg hu) h2
theorem gB_id {l : List Bd} (h : GB l) {t : Tm} (hs : t.shp) (hn : ∀ y, t.occ y → hasB l y = false) : t.sub (gB l) = t :=
  sub_id hs fun y hy => gB_none h.ris (hn y hy)
theorem ap_occ {l : List Bd} (h : GB l) {t : Tm} (hs : t.shp) {y : ByteArray} (ho : (t.sub (gB l)).occ y) : hasB l y = false := by
  obtain ⟨x, _, hx⟩ := (occ_sub _ y t hs).1 ho
  exact gB_occ h hx
theorem ap_shp {l : List Bd} (h : GB l) {t : Tm} (hs : t.shp) : (t.sub (gB l)).shp := shp_sub hs fun y hy => gB_shp h (occ_var hs hy)
theorem gB_one (name : ByteArray) (t : Tm) (y : ByteArray) : gB [⟨name, t⟩] y = if name = y then t else varT y := by
  simp only [gB, lookB, List.find?]
  split
  · rename_i h; simp only [decide_eq_true_eq] at h; rw [if_pos h]; rfl
  · rename_i h; simp only [decide_eq_false_iff_not] at h; rw [if_neg h]; rfl
theorem mem_ins {α : Type} (l : List α) (i : Nat) (x b : α) : b ∈ ins l i x ↔ b ∈ l ∨ b = x := by
  unfold ins
  rw [List.mem_append, List.mem_cons]
  have : b ∈ l ↔ b ∈ l.take i ∨ b ∈ l.drop i := by rw [← List.mem_append, List.take_append_drop]
  rw [this]
  constructor
  · rintro (h | h | h) <;> simp [h]
  · rintro ((h | h) | h) <;> simp [h]
theorem stand_spec {l : List Bd} (h : GB l) {name : ByteArray} {t : Tm} (hn : varB name = true) (hns : name.size ≤ 140737488351232) (hw : t.wf) (hm : mayT t = true) (hl : hasB l name = false) (ho : ¬ t.occ name) (hf : ∀ y, t.occ y → hasB l y = false) (he : standE l name t = 0) :
    GB (standL l name t) ∧ (standL l name t).length = l.length + 1 ∧ (∀ y, gB (standL l name t) y = (gB l y).sub (gB [⟨name, t⟩])) ∧ ∀ y, hasB (standL l name t) y = (hasB l y || decide (name = y)) := by
  have hc : ¬ (16 ≤ l.length ∨ goodB [⟨name, t⟩] l = false) := by
    intro hc; rw [standE, if_pos hc] at he; cases he
  have hg : goodB [⟨name, t⟩] l = true := by
    cases hx : goodB [⟨name, t⟩] l with
    | true => rfl
    | false => exact absurd (.inr hx) hc
  have hg2 : ∀ b ∈ l, mayT (putT [⟨name, t⟩] b.t) = true := fun b hb => (into_may (by simpa using List.all_eq_true.1 hg b hb)).1
  rw [standL, if_neg hc]
  have hlen : (ins (subB [⟨name, t⟩] l) (posB l name) ⟨name, t⟩).length = l.length + 1 := by
    rw [ins_length _ _ _ (by rw [subB_length]; exact posB_le l name), subB_length]
  have hh : ∀ y, hasB (ins (subB [⟨name, t⟩] l) (posB l name) ⟨name, t⟩) y = (hasB l y || decide (name = y)) := fun y => by
    rw [Bool.eq_iff_iff, Bool.or_eq_true, hasB_iff, hasB_iff, decide_eq_true_eq]
    constructor
    · rintro ⟨b, hb, rfl⟩
      rcases (mem_ins _ _ _ _).1 hb with hb | rfl
      · obtain ⟨c, hc2, rfl⟩ := List.mem_map.1 hb
        exact .inl ⟨c, hc2, rfl⟩
      · exact .inr rfl
    · rintro (⟨b, hb, rfl⟩ | rfl)
      · exact ⟨_, (mem_ins _ _ _ _).2 (.inl (List.mem_map.2 ⟨b, hb, rfl⟩)), rfl⟩
      · exact ⟨_, (mem_ins _ _ _ _).2 (.inr rfl), rfl⟩
  have hsb : hasB (subB [⟨name, t⟩] l) name = false := by
    rw [hasB_no] at hl ⊢
    intro b hb
    obtain ⟨c, hc2, rfl⟩ := List.mem_map.1 hb
    exact hl c hc2
  have hris : RisB (ins (subB [⟨name, t⟩] l) (posB l name) ⟨name, t⟩) := by
    have := ins_ris (y := ⟨name, t⟩) (subB_ris [⟨name, t⟩] h.ris) hsb
    rwa [subB_pos] at this
  have hone := one_bok hns hw hm
  have hput : ∀ b ∈ l, putT [⟨name, t⟩] b.t = b.t.sub (gB [⟨name, t⟩]) := fun b hb => putT_sub (may_dle (h.el b hb).2.2) _
  have hGB : GB (ins (subB [⟨name, t⟩] l) (posB l name) ⟨name, t⟩) := by
    refine ⟨by rw [hlen]; omega, hris, fun b hb => ?_, fun b hb y hy => ?_⟩
    · rcases (mem_ins _ _ _ _).1 hb with hb | rfl
      · obtain ⟨c, hc2, rfl⟩ := List.mem_map.1 hb
        exact ⟨⟨(h.el c hc2).1.1, putT_wf hone (h.el c hc2).1.2⟩, (h.el c hc2).2.1, hg2 c hc2⟩
      · exact ⟨⟨hns, hw⟩, hn, hm⟩
    · rw [hh, Bool.or_eq_false_iff, decide_eq_false_iff_not]
      rcases (mem_ins _ _ _ _).1 hb with hb | rfl
      · obtain ⟨c, hc2, rfl⟩ := List.mem_map.1 hb
        simp only at hy
        rw [hput c hc2, occ_sub _ _ _ (may_shp (h.el c hc2).2.2)] at hy
        obtain ⟨x, hx, hy⟩ := hy
        rw [gB_one] at hy
        split at hy
        · exact ⟨hf y hy, fun e => ho (e ▸ hy)⟩
        · rename_i hne
          rw [varT_occ] at hy; subst hy
          exact ⟨h.idem c hc2 x hx, hne⟩
      · exact ⟨hf y hy, fun e => ho (e ▸ hy)⟩
  refine ⟨hGB, hlen, fun y => ?_, hh⟩
  rcases gB_cases h.ris y with ⟨b, hb, rfl, e⟩ | ⟨hn2, e⟩
  · rw [e]
    have := gB_mem hris (b := ⟨b.name, putT [⟨name, t⟩] b.t⟩) ((mem_ins _ _ _ _).2 (.inl (List.mem_map.2 ⟨b, hb, rfl⟩)))
    simp only at this
    rw [this, hput b hb]
  · rw [e, varT_sub, gB_one]
    split
    · rename_i hy; subst hy
      exact gB_mem hris (b := ⟨name, t⟩) ((mem_ins _ _ _ _).2 (.inr rfl))
    · rename_i hy
      exact gB_none hris (by rw [hh, hn2]; simpa using hy)
end Go.Proofs.YtdecgkhdbfgldaaGreat

set_option linter.unusedVariables false
set_option linter.unusedSimpArgs false
set_option maxRecDepth 8000
namespace Go.Proofs.YtdecgkhdbfgldaaGreat
open Go
theorem CopyTerms_of (l : List Tm) (hl : l.length * 56 ≤ 140737488351232) (hC : ∀ u ∈ l, PF 95 [tmA false u] (.agg (lift true (tmD u)))) : AC Tryz.prog 159 [.dat false 4 (tmDs l)] [] (fun r O => r = .row 3 ∧ O = [(3, .rowd 35 4 true (tmDs l))]) := by
  have hlen := tmDs_length l
  refine AC_intro Tryz.func159 rfl Tryz.ntmps159 (Nat.le_of_ble_eq_true rfl) fun c hL hQ hDD => ?_; refine awp_seq ?_; refine awp_region ?_; refine awps_stp0 rfl rfl (by decide) (stp_move (.inr rfl) rfl) ?_; refine awps_nil ?_; refine thenQ_nil ?_; refine awp_seq ?_; refine awp_region ?_; refine awps_stp0 rfl rfl (by decide) (stp_move (.inr rfl) rfl) ?_; refine awps_nil ?_; refine thenQ_nil ?_
  refine awp_seq ?_; refine awp_seq ?_; refine awp_region ?_; refine awps_stp0 rfl rfl (by decide) (stp_move (.inr rfl) rfl) ?_; refine awps_nil ?_; refine thenQ_nil ?_; refine awp_block ?_; refine awp_while (l.length) (fun k => k ≤ l.length) (fun k => ⟨[(0, .dat false 4 (tmDs l)), (3, .row 3), (4, iv (k : Int))], [(3, .rowd 35 4 true (tmDs (l.take k)))]⟩) (by omega) ?_ (fun k hk hp => ?_)
  · exact Sub.trans (sub_nil_row (t := 3) (l := 3) 35 4 true rfl rfl) (sub_re (SubT.cons (lk_eq rfl (by first | rfl | simp)) (SubT.cons (lk_eq rfl (by first | rfl | simp)) (SubT.cons (lk_eq rfl (by first | rfl | simp)) (SubT.nil)))) (SubO.cons (ok_eq rfl (by rfl)) (SubO.nil)) rfl rfl (noL' (noL hL) _))
  have hl2 : (tmDs (l.take k)).length ≤ l.length := by rw [tmDs_length, List.length_take]; omega
  refine awp_seq ?_; refine awp_seq ?_; refine awp_region ?_; refine awps_stp0 rfl rfl (by decide) (stp_move (.inl rfl) rfl) ?_; refine awps_stp0 rfl rfl (by decide) (stp_move (.inl rfl) rfl) ?_; refine awps_stp0 rfl rfl (by decide) (stp_len_dat rfl sl_S_api_Term rfl) ?_; refine awps_stp0 rfl rfl (by decide) (stp_binI rfl rfl rfl rfl) ?_; refine awps_nil ?_; refine thenQ_nil ?_; refine awp_cond rfl (fun c0 => ?_) (fun c0 => ?_)
  · try simp only [↓cqA, cqB] at c0
    obtain ⟨u, hu⟩ := get_of_lt (l := l) (k := k) (by omega)
    have hum := List.mem_of_getElem? hu
    refine awp_skip ?_; refine thenQ_nil ?_; refine awp_seq ?_; refine awp_block ?_; refine awp_region ?_; refine awps_stp0 rfl rfl (by decide) (stp_move (.inl rfl) rfl) ?_; refine awps_stp0 rfl rfl (by decide) (stp_move (.inl rfl) rfl) ?_; refine awps_stp0 rfl rfl (by decide) (stp_move (.inl rfl) rfl) ?_; refine awps_stp0 rfl rfl (by decide) (stp_indexAddr rfl sl_S_api_Term rfl rfl (by omega) (tmDs_get hu)) ?_; refine awps_stp0 rfl rfl (by decide) (stp_load_elpa rfl tf_api_Term rfl rfl) ?_
    refine awps_call (avs := [_]) true rfl rfl rfl (by decide) en_almagestref0_CopyTerm rfl rfl (hC u hum) rfl rfl ?_; refine awps_stp1 rfl rfl (by decide) (stp_buildSlice 17 rfl sl_S_api_Term zv_api_Term rfl rfl (by decide) (by decide) (by decide) rfl rfl rfl) rfl ?_; refine awps_u rfl rfl (by decide) (stpU_append1 18 ta_S_api_Term rfl rfl rfl rfl rfl rfl rfl rfl (noL hL _) (by omega) rfl) rfl ?_
    refine awps_stp0 rfl rfl (by decide) (stp_move (.inr rfl) rfl) ?_; refine awps_nil ?_; refine inQ_nil ?_; refine thenQ_nil ?_; refine awp_region ?_; refine awps_stp0 rfl rfl (by decide) (stp_move (.inl rfl) rfl) ?_; refine awps_stp0 rfl rfl (by decide) (stp_add rfl rfl rfl (by omega)) ?_; refine awps_stp0 rfl rfl (by decide) (stp_move (.inr rfl) rfl) ?_; refine awps_nil ?_; refine thenQ_nil ?_; refine ⟨?_, ?_, ?_⟩
    · skip
      omega
    · skip
      omega
    exact Sub.trans (sub_rename 18 3 (noL hL _) (noL hL _)) (sub_re (SubT.cons (lk_eq rfl (by first | rfl | simp)) (SubT.cons (lk_eq rfl (by first | rfl | simp)) (SubT.cons (lk_eq rfl (by first | rfl | simp)) (SubT.nil)))) (SubO.cons (ok_eq rfl (by rw [take_snoc hu, show tmDs (l.take k ++ [u]) = tmDs (l.take k) ++ [tmD u] by rw [tmDs_map, tmDs_map, List.map_append]; rfl]; rfl)) (SubO.nil)) rfl rfl (noL' (noL hL) _))
  try simp only [↓cqA, cqB] at c0
  refine awp_exit ?_; refine thenQ_exit (thenQ_exit (inQ_hit ?_)); refine thenQ_nil ?_; refine awp_seq ?_; refine awp_region ?_; refine awps_stp0 rfl rfl (by decide) (stp_move (.inl rfl) rfl) ?_; refine awps_stp0 rfl rfl (by decide) (stp_move (.inr rfl) rfl) ?_; refine awps_nil ?_; refine thenQ_nil ?_; refine awp_ret ?_
  -- leaf 0F
  change retQ _ _ _ _ _ _ _
  refine retO (O' := [(3, _)]) (.inl rfl) (resAs_tmp rfl resAs_nil) (SubO.cons rfl SubO.nil) ?_ ?_ (noL' (noL hL) _) ?_
  · rfl
  · rfl
  exact ⟨rfl, by rw [List.take_of_length_le (by omega)]⟩
theorem CopyTerm_ok : ∀ (d : Nat) (t : Tm), dle d t → t.wf → PF 95 [tmA false t] (.agg (lift true (tmD t)))
  | 0, t, h, _ => h.elim
  | d + 1, t, h, ht => by
    have key := AC_rnE 3 77 (CopyTerms_of t.args ht.2.2.2.1 (fun u hu => CopyTerm_ok d u (h u hu) (Tm.wfs_mem ht.2.2.2.2 hu)))
    refine AC_intro Tryz.func95 rfl Tryz.ntmps95 (Nat.le_of_ble_eq_true rfl) fun c hL hQ hDD => ?_; refine awp_seq ?_; refine awp_region ?_; refine awps_stp1 rfl rfl (by decide) (stp_box 1 rfl rfl rfl) rfl ?_; refine awps_stp1 rfl rfl (by decide) (stp_alloc 2 rfl zv_api_Term rfl) rfl ?_; refine awps_nil ?_; refine thenQ_nil ?_; refine awp_seq ?_; refine awp_region ?_; refine awps_stp0 rfl rfl (by decide) (stp_load_all rfl tf_api_Term rfl rfl rfl rfl) ?_
    refine awps_stp1 rfl rfl (by decide) (stp_alloc 3 rfl zv_api_Term rfl) rfl ?_; refine awps_store rfl rfl rfl tf_api_Term rfl rfl rfl rfl rfl rfl rfl rfl rfl ?_; refine awps_nil ?_; refine thenQ_nil ?_; refine awp_seq ?_; refine awp_region ?_; refine awps_stp0 rfl rfl (by decide) (stp_fieldAddr rfl fo_api_Term_3 rfl) ?_; refine awps_stp0 rfl rfl (by decide) (stp_load rfl tf_S_api_Term rfl rfl rfl rfl rfl) ?_; refine awps_u rfl rfl (by decide) (stpU_call (avs := [_]) true rfl en_almagestref0_CopyTerms rfl rfl (key) (fun _ => rfl) rfl) rfl ?_
    refine awps_stp0 rfl rfl (by decide) (stp_fieldAddr rfl fo_api_Term_3 rfl) ?_; refine awps_store rfl rfl rfl tf_S_api_Term rfl rfl rfl rfl rfl rfl rfl rfl rfl ?_; refine awps_nil ?_; refine thenQ_nil ?_; refine awp_seq ?_; refine awp_sub (sub_freeze (l := 77) rfl (by decide) (noL hL _) rfl rfl) ?_; refine awp_region ?_; refine awps_stp0 rfl rfl (by decide) (stp_load_all rfl tf_api_Term rfl rfl rfl rfl) ?_; refine awps_store rfl rfl rfl tf_api_Term rfl rfl rfl rfl rfl rfl rfl rfl rfl ?_; refine awps_nil ?_; refine thenQ_nil ?_; refine awp_ret ?_
    -- leaf 
    refine ret0 (noL hL) (.inl rfl) (resAs_cell tf_api_Term rfl rfl rfl (resAs_nil)) ?_ ?_
    · rfl
    exact ⟨rfl, rfl⟩
end Go.Proofs.YtdecgkhdbfgldaaGreat

set_option linter.unusedVariables false
set_option linter.unusedSimpArgs false
namespace Go.Proofs.YtdecgkhdbfgldaaGreat
open Go
def TK (t : Tm) : Prop := t.shp ∧ dle 5 t ∧ t.wf
def PK (p : Tm × Tm) : Prop := TK p.1 ∧ TK p.2
theorem TK_may {t : Tm} (h : mayT t = true) (hw : t.wf) : TK t := ⟨may_shp h, may_dle h, hw⟩
theorem TK.arg {t u : Tm} (h : TK t) (hu : u ∈ t.args) : TK u := ⟨h.1.arg hu, dle_mono 4 5 u (by omega) (h.2.1 u hu), Tm.wfs_mem h.2.2.2.2.2.2 hu⟩
theorem occB_iff {t : Tm} (h : dle 5 t) (s : ByteArray) : occB t s = true ↔ t.occ s := by
  rw [occB, List.any_eq_true]
  constructor
  · rintro ⟨y, hy, e⟩
    simp only [decide_eq_true_eq] at e; subst e
    exact (note5 h y).1 hy
  · intro ho; exact ⟨s, (note5 h s).2 ho, by simp⟩
theorem stands_spec {l : List Bd} (h : GB l) {x : ByteArray} {u : Tm} (hx : varB x = true) (hxs : x.size ≤ 140737488351232) (hw : u.wf) (hm : mayT u = true) (hl : hasB l x = false) (hf : ∀ y, u.occ y → hasB l y = false) (hne : u ≠ varT x) :
    standsE l x u = 2 ∨ (standsE l x u = 3 ∧ ∀ θ : ByteArray → Tm, θ x ≠ u.sub θ) ∨ (standsE l x u = 0 ∧ GB (standsL l x u) ∧ (standsL l x u).length = l.length + 1 ∧ (∀ y, gB (standsL l x u) y = (gB l y).sub (gB [⟨x, u⟩])) ∧ ∀ y, hasB (standsL l x u) y = (hasB l y || decide (x = y))) := by
  have hs := may_shp hm
  rw [standsE, standsL]
  cases hc : occB u x with
  | true =>
    rw [occB_iff (may_dle hm)] at hc
    rw [if_pos rfl]
    refine .inr (.inl ⟨rfl, fun θ e => ?_⟩)
    have hk : u.kind ≠ 1 := fun hk => by
      have hv := (hs.var hk).1
      rw [hv, Tm.occ_iff] at hc
      simp only [List.not_mem_nil, false_and, exists_false, or_false, true_and] at hc
      rw [hc] at hv; exact hne hv
    have := (sz_occ θ hs hc).2 hk
    rw [e] at this; omega
  | false =>
    have ho : ¬ u.occ x := fun ho => by rw [(occB_iff (may_dle hm) x).2 ho] at hc; cases hc
    rw [if_neg (by simp), if_neg (by simp)]
    by_cases he : standE l x u = 0
    · obtain ⟨h1, h2, h3, h4⟩ := stand_spec h hx hxs hw hm hl ho hf he
      exact .inr (.inr ⟨he, h1, h2, h3, h4⟩)
    · left
      unfold standE at he ⊢
      split
      · rfl
      · rename_i hh; rw [if_neg hh] at he; exact absurd rfl he
def OneOk (l : List Bd) (a b : Tm) (q : List Bd × List (Tm × Tm) × Int) : Prop :=
  mayT a = true ∧ mayT b = true ∧ ((q = (l, [], 0) ∧ a = b) ∨
    (∃ x u, ((a = varT x ∧ b = u) ∨ (b = varT x ∧ a = u)) ∧ u.shp ∧ q.2 = ([], 0) ∧ GB q.1 ∧ q.1.length = l.length + 1 ∧ (∀ y, gB q.1 y = (gB l y).sub (gB [⟨x, u⟩])) ∧ ∀ y, hasB q.1 y = (hasB l y || decide (x = y))) ∨
    (q = (l, a.args.zip b.args, 0) ∧ a.kind ≠ 1 ∧ b.kind ≠ 1 ∧ a.kind = b.kind ∧ a.name = b.name ∧ a.n = b.n ∧ a.args.length = b.args.length))
theorem one_spec {l : List Bd} (h : GB l) {p : Tm × Tm} (hp : PK p) :
    (oneR l p).2.2 = 2 ∨ ((oneR l p).2.2 = 3 ∧ ∀ θ : ByteArray → Tm, (p.1.sub (gB l)).sub θ ≠ (p.2.sub (gB l)).sub θ) ∨ OneOk l (p.1.sub (gB l)) (p.2.sub (gB l)) (oneR l p) := by
  have e1 := putT_sub hp.1.2.1 l
  have e2 := putT_sub hp.2.2.1 l
  have w1 := putT_wf h.bok hp.1.2.2
  have w2 := putT_wf h.bok hp.2.2.2
  have f1 : ∀ y, (p.1.sub (gB l)).occ y → hasB l y = false := fun y => ap_occ h hp.1.1
  have f2 : ∀ y, (p.2.sub (gB l)).occ y → hasB l y = false := fun y => ap_occ h hp.2.1
  have hi : ∀ t, intoE l t = 0 ∨ intoE l t = 2 := fun t => by unfold intoE; split <;> simp
  unfold oneR
  by_cases c0 : intoE l p.1 = 0
  case neg => rw [if_pos c0]; rcases hi p.1 with h | h; exact absurd h c0; exact .inl h
  rw [if_neg (by simp [c0])]
  by_cases c1 : intoE l p.2 = 0
  case neg => rw [if_pos c1]; rcases hi p.2 with h | h; exact absurd h c1; exact .inl h
  rw [if_neg (by simp [c1])]
  have m1 := (into_may c0).1
  have m2 := (into_may c1).1
  rw [e1] at w1 m1
  rw [e2] at w2 m2
  rw [e1, e2]
  generalize p.1.sub (gB l) = a at *
  generalize p.2.sub (gB l) = b at *
  have s1 := may_shp m1
  have s2 := may_shp m2
  have key : ∀ (x : ByteArray) (u : Tm), ((a = varT x ∧ b = u) ∨ (b = varT x ∧ a = u)) → u ≠ varT x → u.wf → mayT u = true → (∀ y, u.occ y → hasB l y = false) → varB x = true → x.size ≤ 140737488351232 → hasB l x = false →
      (standsE l x u = 2 ∨ (standsE l x u = 3 ∧ ∀ θ : ByteArray → Tm, a.sub θ ≠ b.sub θ) ∨ OneOk l a b (standsL l x u, [], standsE l x u)) := fun x u hab hne hw hm hf hx hxs hl => by
    rcases stands_spec h hx hxs hw hm hl hf hne with h1 | ⟨h1, h2⟩ | ⟨h1, h2, h3, h4, h5⟩
    · exact .inl h1
    · refine .inr (.inl ⟨h1, fun θ e => ?_⟩)
      rcases hab with ⟨rfl, rfl⟩ | ⟨rfl, rfl⟩
      · rw [varT_sub] at e; exact h2 θ e
      · rw [varT_sub] at e; exact h2 θ e.symm
    · exact .inr (.inr ⟨m1, m2, .inr (.inl ⟨x, u, hab, may_shp hm, by rw [h1], h2, h3, h4, h5⟩)⟩)
  split
  · rename_i hc
    have ea := (s1.var hc.1).1
    have eb := (s2.var hc.2.1).1
    exact .inr (.inr ⟨m1, m2, .inl ⟨rfl, by rw [ea, eb, hc.2.2]⟩⟩)
  rename_i n0
  split
  · rename_i hc
    have ea := s1.var hc.1
    refine key a.name b (.inl ⟨ea.1, rfl⟩) (fun e => ?_) w2 m2 f2 ea.2 w1.2.1 (f1 _ ((Tm.occ_iff _ _).2 (.inl ⟨hc.1, rfl⟩)))
    have hbk : b.kind = 1 := by rw [e]; rfl
    have hbn : b.name = a.name := by rw [e]; rfl
    exact n0 ⟨hc.1, hbk, hbn.symm⟩
  rename_i n1
  split
  · rename_i hc
    have eb := s2.var hc
    refine key b.name a (.inr ⟨eb.1, rfl⟩) (fun e => ?_) w1 m1 f1 eb.2 w2.2.1 (f2 _ ((Tm.occ_iff _ _).2 (.inl ⟨hc, rfl⟩)))
    have hak : a.kind = 1 := by rw [e]; rfl
    have han : a.name = b.name := by rw [e]; rfl
    exact n0 ⟨hak, hc, han⟩
  rename_i n2
  have hak : a.kind ≠ 1 := fun hk => n1 ⟨hk, .inl n2⟩
  split
  · rename_i hc
    rw [argsL, if_pos hc]
    simp only [argsB, Bool.and_eq_true, decide_eq_true_eq] at hc
    exact .inr (.inr ⟨m1, m2, .inr (.inr ⟨rfl, hak, n2, hc.1.1.1, hc.1.1.2, hc.1.2, hc.2⟩)⟩)
  · rename_i hc
    refine .inr (.inl ⟨rfl, fun θ e => ?_⟩)
    rw [Tm.sub_eq, if_neg hak, Tm.sub_eq, if_neg n2] at e
    simp only [Tm.mk.injEq] at e
    apply hc
    have := congrArg List.length e.2.2.2
    simp only [List.length_map] at this
    simp [argsB, e.1, e.2.1, e.2.2.1, this]
def uIter : Nat → List Bd → List (Tm × Tm) → Option (List Bd × Int)
  | _, l, [] => some (l, 0)
  | 0, _, _ :: _ => none
  | n + 1, l, p :: ps => if (oneR l p).2.2 ≠ 0 then some ([], (oneR l p).2.2) else uIter n (oneR l p).1 ((oneR l p).2.1 ++ ps)
theorem PK_zip {a b : Tm} (ha : TK a) (hb : TK b) : ∀ p ∈ a.args.zip b.args, PK p := fun p hp => by
  have := List.of_mem_zip hp
  exact ⟨ha.arg this.1, hb.arg this.2⟩
theorem one_keeps {l : List Bd} (h : GB l) {p : Tm × Tm} (hp : PK p) (he : (oneR l p).2.2 = 0) : GB (oneR l p).1 ∧ (∀ q ∈ (oneR l p).2.1, PK q) ∧ OneOk l (p.1.sub (gB l)) (p.2.sub (gB l)) (oneR l p) := by
  have e1 := putT_sub hp.1.2.1 l
  have e2 := putT_sub hp.2.2.1 l
  have w1 := putT_wf h.bok hp.1.2.2
  have w2 := putT_wf h.bok hp.2.2.2
  rw [e1] at w1
  rw [e2] at w2
  rcases one_spec h hp with h1 | ⟨h1, _⟩ | h1
  · rw [h1] at he; cases he
  · rw [h1] at he; cases he
  · refine ⟨?_, ?_, h1⟩
    · obtain ⟨_, _, ⟨e, _⟩ | ⟨x, u, _, _, e, hg, _⟩ | ⟨e, _⟩⟩ := h1
      · rw [e]; exact h
      · exact hg
      · rw [e]; exact h
    · obtain ⟨m1, m2, ⟨e, _⟩ | ⟨x, u, _, _, e, hg, _⟩ | ⟨e, _⟩⟩ := h1
      · rw [e]; intro q hq; cases hq
      · rw [e]; intro q hq; cases hq
      · rw [e]; exact PK_zip (TK_may m1 w1) (TK_may m2 w2)
end Go.Proofs.YtdecgkhdbfgldaaGreat

set_option linter.unusedVariables false
set_option linter.unusedSimpArgs false
namespace Go.Proofs.YtdecgkhdbfgldaaGreat
open Go
def wgh (l : List Bd) (ps : List (Tm × Tm)) : Nat := (ps.map fun p => (p.1.sub (gB l)).sz).sum
theorem wgh_cons (l : List Bd) (p : Tm × Tm) (ps : List (Tm × Tm)) : wgh l (p :: ps) = (p.1.sub (gB l)).sz + wgh l ps := by simp [wgh]
theorem wgh_append (l : List Bd) (ps qs : List (Tm × Tm)) : wgh l (ps ++ qs) = wgh l ps + wgh l qs := by simp [wgh]
theorem wgh_zip {l : List Bd} (h : GB l) {p : Tm × Tm} (hp : PK p) {bs : List Tm} (hlen : (p.1.sub (gB l)).args.length = bs.length) : 1 + wgh l ((p.1.sub (gB l)).args.zip bs) = (p.1.sub (gB l)).sz := by
  rw [Tm.sz_eq (p.1.sub (gB l)), wgh]
  have hs := ap_shp h hp.1.1
  have ho : ∀ y, (p.1.sub (gB l)).occ y → hasB l y = false := fun y => ap_occ h hp.1.1
  have e : (((p.1.sub (gB l)).args.zip bs).map fun p => (p.1.sub (gB l)).sz) = (((p.1.sub (gB l)).args.zip bs).map Prod.fst).map fun u => (u.sub (gB l)).sz := by rw [List.map_map]; rfl
  rw [e, List.map_fst_zip (by omega)]
  have e2 : ((p.1.sub (gB l)).args.map fun u => (u.sub (gB l)).sz) = (p.1.sub (gB l)).args.map Tm.sz := List.map_congr_left fun u hu => by
    rw [gB_id h (hs.arg hu) fun y hy => ho y ((Tm.occ_iff _ _).2 (.inr ⟨u, hu, hy⟩))]
  rw [e2]
def WI (l : List Bd) (ps : List (Tm × Tm)) : Prop := ∃ pend rest, ps = pend ++ rest ∧ wgh l pend ≤ 24 ∧ rest.length ≤ 24 * (l.length + 1)
theorem wgh_len (l : List Bd) : ∀ ps, ps.length ≤ wgh l ps
  | [] => Nat.zero_le _
  | p :: ps => by
    have := wgh_len l ps
    have := Tm.sz_pos (p.1.sub (gB l))
    rw [wgh_cons, List.length_cons]; omega
theorem WI.len {l : List Bd} {ps : List (Tm × Tm)} (h : WI l ps) (hl : l.length ≤ 16) : ps.length ≤ 432 := by
  obtain ⟨pend, rest, rfl, h1, h2⟩ := h
  have := wgh_len l pend
  rw [List.length_append]; omega
theorem WI.step {l : List Bd} (h : GB l) {p : Tm × Tm} (hp : PK p) {ps : List (Tm × Tm)} (hw : WI l (p :: ps)) (he : (oneR l p).2.2 = 0) : WI (oneR l p).1 ((oneR l p).2.1 ++ ps) := by
  obtain ⟨g1, g2, g3⟩ := one_keeps h hp he
  obtain ⟨pend, rest, e0, h1, h2⟩ := hw
  cases pend with
  | nil =>
    simp only [List.nil_append] at e0
    subst e0
    simp only [List.length_cons] at h2
    obtain ⟨m1, m2, ⟨e, _⟩ | ⟨x, u, _, _, e, _, hl, _⟩ | ⟨e, _, _, _, _, _, hlen⟩⟩ := g3
    · rw [e]; exact ⟨[], ps, rfl, by simp [wgh], by simp only; omega⟩
    · rw [e]; exact ⟨[], ps, rfl, by simp [wgh], by rw [hl]; omega⟩
    · rw [e]
      have := wgh_zip h hp hlen
      have hz := ((mayT_iff _).1 m1).2.2
      exact ⟨_, ps, rfl, by simp only; omega, by simp only; omega⟩
  | cons q pend =>
    simp only [List.cons_append, List.cons.injEq] at e0
    obtain ⟨rfl, rfl⟩ := e0
    rw [wgh_cons] at h1
    have hpos := Tm.sz_pos (p.1.sub (gB l))
    obtain ⟨m1, m2, ⟨e, _⟩ | ⟨x, u, _, _, e, _, hl, _⟩ | ⟨e, _, _, _, _, _, hlen⟩⟩ := g3
    · rw [e]; exact ⟨pend, rest, rfl, by simp only; omega, h2⟩
    · rw [e]
      refine ⟨[], pend ++ rest, rfl, by simp [wgh], ?_⟩
      have := wgh_len l pend
      rw [hl, List.length_append]; omega
    · rw [e]
      have := wgh_zip h hp hlen
      refine ⟨(p.1.sub (gB l)).args.zip (p.2.sub (gB l)).args ++ pend, rest, by simp, ?_, h2⟩
      rw [wgh_append]; simp only; omega
def uSt : Nat → List Bd × List (Tm × Tm) → List Bd × List (Tm × Tm)
  | 0, s => s
  | k + 1, s => match uSt k s with
    | (l, []) => (l, [])
    | (l, p :: ps) => ((oneR l p).1, (oneR l p).2.1 ++ ps)
theorem uSt_step {k : Nat} {s : List Bd × List (Tm × Tm)} {p : Tm × Tm} {ps : List (Tm × Tm)} (h : (uSt k s).2 = p :: ps) : uSt (k + 1) s = ((oneR (uSt k s).1 p).1, (oneR (uSt k s).1 p).2.1 ++ ps) := by
  rw [uSt]
  split
  · rename_i e; rw [e] at h; cases h
  · rename_i e; rw [e] at h ⊢; simp only [List.cons.injEq] at h; obtain ⟨rfl, rfl⟩ := h; rfl
def UI (n : Nat) (s : List Bd × List (Tm × Tm)) (R : List Bd × Int) (k : Nat) : Prop := k ≤ n ∧ GB (uSt k s).1 ∧ (∀ p ∈ (uSt k s).2, PK p) ∧ WI (uSt k s).1 (uSt k s).2 ∧ uIter (n - k) (uSt k s).1 (uSt k s).2 = some R
theorem UI.step {n : Nat} {s : List Bd × List (Tm × Tm)} {R : List Bd × Int} {k : Nat} (h : UI n s R k) {p : Tm × Tm} {ps : List (Tm × Tm)} (hp : (uSt k s).2 = p :: ps) : k < n ∧ ((oneR (uSt k s).1 p).2.2 = 0 → UI n s R (k + 1)) ∧ ((oneR (uSt k s).1 p).2.2 ≠ 0 → R = ([], (oneR (uSt k s).1 p).2.2)) := by
  obtain ⟨h1, h2, h3, h4, h5⟩ := h
  rw [hp] at h3 h4 h5
  have hk : k < n := by
    rcases Nat.lt_or_ge k n with h | h
    · exact h
    · rw [show n - k = 0 by omega, uIter] at h5; cases h5
  rw [show n - k = (n - (k + 1)) + 1 by omega, uIter] at h5
  refine ⟨hk, fun he => ?_, fun he => ?_⟩
  · rw [if_neg (by simp [he])] at h5
    obtain ⟨g1, g2, _⟩ := one_keeps h2 (h3 p (by simp)) he
    rw [UI, uSt_step hp]
    exact ⟨hk, g1, fun q hq => by
      rcases List.mem_append.1 hq with hq | hq
      · exact g2 q hq
      · exact h3 q (by simp [hq]), WI.step h2 (h3 p (by simp)) h4 he, h5⟩
  · rw [if_pos he] at h5; exact (Option.some.inj h5).symm
end Go.Proofs.YtdecgkhdbfgldaaGreat

set_option linter.unusedVariables false
set_option maxRecDepth 8000
namespace Go.Proofs.YtdecgkhdbfgldaaGreat
open Go Go.RowKit
structure Ask2 where
  B : List (List Bd)
  T : List Tm
  S : List ByteArray
def Ask2.wf (p : Ask2) : Prop := (lenOk p.B ∧ ∀ l ∈ p.B, lenOk l ∧ ∀ b ∈ l, b.wf) ∧ (lenOk p.T ∧ Tm.wfs p.T) ∧ (lenOk p.S ∧ ∀ s ∈ p.S, s.size ≤ 140737488351232)
end Go.Proofs.YtdecgkhdbfgldaaGreat

set_option linter.unusedVariables false
set_option linter.unusedSimpArgs false
set_option maxRecDepth 8000
namespace Go.Proofs.YtdecgkhdbfgldaaGreat
open Go
theorem sub_le {c : Ctx} {N : Nat} {T : List (Nat × AV)} {O : List (Nat × Ob)} (t : Nat) {v u : AV} (ht : lk T t = some v) (hle : Le v u) : Sub c N ⟨T, O⟩ ⟨(t, u) :: T, O⟩ := by
  rintro a w ⟨ρ, S, hc⟩
  have hev := hc.T t _ ht
  refine ⟨ρ, S, { hc with tm := hc.tm, T := fun s x hs => ?_ }⟩
  simp only [lk_cons] at hs
  split at hs
  · rename_i e'; subst e'
    simp only [Option.some.injEq] at hs; subst hs
    exact hle.rep hev
  · exact hc.T s x hs
theorem tm_wf1 {k : Int} {s : ByteArray} {n : Int} {l : List Tm} (hk : -9223372036854775808 ≤ k ∧ k ≤ 9223372036854775807) (hs : s.size ≤ 140737488351232) (hn : -9223372036854775808 ≤ n ∧ n ≤ 9223372036854775807) (hl : l.length * 56 ≤ 140737488351232) (h : ∀ t ∈ l, t.wf) : (Tm.mk k s n l).wf := ⟨hk, hs, hn, hl, wfs_of h⟩
abbrev nmT (s : ByteArray) (l : List Tm) : Tm := ⟨3, s, 0, l⟩
theorem nmT_w (s : ByteArray) (l : List Tm) (h : s.size ≤ 140737488351232) (hl : l.length * 56 ≤ 140737488351232) (hw : ∀ t ∈ l, t.wf) : (nmT s l).wf := tm_wf1 (by decide) h (by decide) hl hw
end Go.Proofs.YtdecgkhdbfgldaaGreat

set_option linter.unusedVariables false
set_option linter.unusedSimpArgs false
namespace Go.Proofs.YtdecgkhdbfgldaaGreat
open Go
theorem eqL_iff (f : Tm → Tm → Bool) : ∀ (l m : List Tm), (∀ u v, u ∈ l → (f u v = true ↔ u = v)) → (eqL f l m = true ↔ l = m)
  | [], [], _ => by simp [eqL]
  | [], _ :: _, _ => by simp [eqL]
  | _ :: _, [], _ => by simp [eqL]
  | a :: l, b :: m, h => by
    have ih := eqL_iff f l m (fun u v hu => h u v (by simp [hu]))
    simp only [eqL, Bool.and_eq_true, h a b (by simp), ih, List.cons.injEq]
theorem bext {a b : ByteArray} (h : a.data.toList = b.data.toList) : a = b := by
  cases a; cases b; congr 1; exact Array.toList_inj.1 h
theorem eqT_iff : ∀ (d : Nat) (a b : Tm), dle d a → (eqT d a b = true ↔ a = b)
  | 0, a, b, h => h.elim
  | d + 1, a, b, h => by
    have ih := eqL_iff (eqT d) a.args b.args (fun u v hu => eqT_iff d u v (h u hu))
    rw [eqT]
    simp only [Bool.and_eq_true, decide_eq_true_eq, ih, data_inj]
    cases a; cases b
    simp only [Tm.mk.injEq]
    constructor
    · rintro ⟨⟨⟨h1, h2⟩, h3⟩, h4⟩; exact ⟨h1, bext h2, h3, h4⟩
    · rintro ⟨h1, h2, h3, h4⟩; exact ⟨⟨⟨h1, by rw [h2]⟩, h3⟩, h4⟩
end Go.Proofs.YtdecgkhdbfgldaaGreat

set_option linter.unusedVariables false
set_option linter.unusedSimpArgs false
set_option maxRecDepth 8000
namespace Go.Proofs.YtdecgkhdbfgldaaGreat
open Go
theorem wgtL_mem {α : Type} (f : α → Int) (m : Int) (hm : m < 1048576) : ∀ (n : Int) (l : List α), (∀ t, t ∈ l → 0 ≤ f t) → 0 ≤ n → wgtL f n l ≤ m → n ≤ m ∧ ∀ u ∈ l, f u ≤ m
  | n, [], _, _, h => ⟨by simpa [wgtL] using h, fun u hu => by cases hu⟩
  | n, a :: l, hf, hn, h => by
    have h1 := wgtL_ge' f n (a :: l) hf
    simp only [wgtL] at h
    rw [if_pos (by omega)] at h
    have h0 := hf a (by simp)
    obtain ⟨h2, h3⟩ := wgtL_mem f m hm (n + f a) l (fun t ht => hf t (by simp [ht])) (by omega) h
    refine ⟨by omega, fun u hu => ?_⟩
    rcases List.mem_cons.1 hu with rfl | hu
    · omega
    · exact h3 u hu
theorem wgt_dle : ∀ (d : Nat) (t : Tm), wgt d t ≤ 1048575 → dle d t
  | 0, t, h => by
    have h2 : (1048576 : Int) ≤ 1048575 := h
    omega
  | d + 1, t, h => fun u hu => by
    simp only [wgt] at h
    have := (wgtL_mem (wgt d) 1048575 (by omega) _ t.args (fun u _ => wgt_ge d u) (by omega) h).2 u hu
    exact wgt_dle d u this
theorem eqT_selfd {d : Nat} {a : Tm} (h : dle d a) : eqT d a a = true := (eqT_iff d a a h).2 rfl
end Go.Proofs.YtdecgkhdbfgldaaGreat
