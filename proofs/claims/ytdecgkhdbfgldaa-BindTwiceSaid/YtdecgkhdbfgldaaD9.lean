/- Part 9 of the proof: Gk. -/
import Derived.Test.YtdecgkhdbfgldaaD8
set_option linter.unusedVariables false
set_option linter.unusedSimpArgs false
set_option maxRecDepth 8000
namespace Go.Proofs.Ytdecgkhdbfgldaa
open Go
theorem joinL_len (a b : List Bd) : (joinL a b).length ≤ 16 := by
  unfold joinL bothL
  split
  · split
    · rename_i h; exact h.2
    · simp
  · simp
def w2L : List Bd := [⟨sX, numT 5⟩]
theorem wakes2_ok : PF 40 [] (bv true) := by
  have k1 : PF 35 [.imm (.slice none 0 0), sv sX, .agg [iv 2, sv ⟨#[]⟩, iv 5, .imm (.slice none 0 0)]] (.tup [.dat true 5 (bdDs w2L), iv 0]) := by
    have h := AC_le (.cons .nil (.cons .refl (.cons (num_le false 5) .nil))) (Set_ok [] nil_bwf sX (by decide) (numT 5) (numT_w 5 (by decide)))
    rw [show setL [] sX (numT 5) = w2L by kernel_rfl, show setE [] sX (numT 5) = 0 by kernel_rfl] at h
    exact h
  have k2 : PF 33 [bdA w2L, .agg [iv 1, sv sX, iv 0, .imm (.slice none 0 0)]] (.tup [.agg (lift true (tmD (numT 5))), iv 0]) := by
    have h := AC_le (.cons .refl (.cons (var_le false sX) .nil)) (Apply_ok w2L (fun b hb => by simp only [w2L, List.mem_cons, List.not_mem_nil, or_false] at hb; subst hb; exact ⟨by decide, numT_w 5 (by decide)⟩) (varT sX) oX)
    rw [show applyT w2L (varT sX) = numT 5 by kernel_rfl, show applyE w2L (varT sX) = 0 by kernel_rfl] at h
    exact h
  refine AC_intro Try.func40 rfl Try.ntmps40 (Nat.le_of_ble_eq_true rfl) fun c hL hQ => ?_
  refine awp_seq ?_
  refine awp_region ?_
  refine awps_stp0 rfl rfl (by decide) (stp_move (.inr rfl) rfl) ?_
  refine awps_nil ?_
  refine thenQ_nil ?_
  refine awp_seq ?_
  refine awp_region ?_
  refine awps_stp0 rfl rfl (by decide) (stp_build rfl zv_api_Term rfl pl_api_Term rfl rfl) ?_
  refine awps_call (avs := [_, _, _]) true rfl rfl rfl (by decide) en_bind_Set rfl rfl (k1) rfl rfl ?_
  refine awps_stp0 rfl rfl (by decide) (stp_move (.inl rfl) rfl) ?_
  refine awps_stp0 rfl rfl (by decide) (stp_extract rfl rfl rfl) ?_
  refine awps_stp0 rfl rfl (by decide) (stp_extract rfl rfl rfl) ?_
  refine awps_stp0 rfl rfl (by decide) (stp_move (.inr rfl) rfl) ?_
  refine awps_stp0 rfl rfl (by decide) (stp_move (.inr rfl) rfl) ?_
  refine awps_nil ?_
  refine thenQ_nil ?_
  refine awp_seq ?_
  refine awp_sub (sub_untag hQ) ?_
  refine awp_region ?_
  refine awps_stp0 rfl rfl (by decide) (stp_move (.inl rfl) rfl) ?_
  refine awps_stp0 rfl rfl (by decide) (stp_build rfl zv_api_Term rfl pl_api_Term rfl rfl) ?_
  refine awps_call (avs := [_, _]) true rfl rfl rfl (by decide) en_bind_Apply rfl rfl (k2) rfl rfl ?_
  refine awps_stp0 rfl rfl (by decide) (stp_move (.inl rfl) rfl) ?_
  refine awps_stp0 rfl rfl (by decide) (stp_extract rfl rfl rfl) ?_
  refine awps_stp0 rfl rfl (by decide) (stp_extract rfl rfl rfl) ?_
  refine awps_stp1 rfl rfl (by decide) (stp_alloc 3 rfl zv_api_Term rfl) rfl ?_
  refine awps_store rfl rfl rfl tf_api_Term rfl rfl rfl rfl rfl rfl rfl rfl rfl ?_
  refine awps_stp0 rfl rfl (by decide) (stp_move (.inr rfl) rfl) ?_
  refine awps_nil ?_
  refine thenQ_nil ?_
  refine awp_seq ?_
  refine awp_region ?_
  refine awps_stp0 rfl rfl (by decide) (stp_move (.inl rfl) rfl) ?_
  refine awps_call (avs := [_]) true rfl rfl rfl (by decide) en_almagestlaw2_num rfl rfl (num2_ok _) rfl rfl ?_
  refine awps_stp0 rfl rfl (by decide) (stp_binI rfl rfl rfl rfl) ?_
  refine awps_stp0 rfl rfl (by decide) (stp_move (.inl rfl) rfl) ?_
  refine awps_split 19 rfl (fun g19 => ?_) (fun g19 => ?_)
  · try simp only [↓str_beq_t, ↓str_beq_f, decide_eq_true_eq, decide_eq_false_iff_not, Bool.not_eq_true', Bool.not_eq_false', Int.not_lt, Int.not_le, beq_iff_eq, beq_eq_false_iff_ne, bne_iff_ne, bne_eq_false_iff_eq, ne_eq] at g19
    refine awps_g0 rfl rfl rfl (by decide) rfl (by decide) (stp_move (.inl rfl) rfl) ?_
    refine awps_g0 rfl rfl rfl (by decide) rfl (by decide) (stp_call (avs := [_]) true rfl en_almagestlaw2_num rfl rfl (num2_ok _) (fun _ => rfl) rfl) ?_
    refine awps_g0 rfl rfl rfl (by decide) rfl (by decide) (stp_binI rfl rfl rfl rfl) ?_
    refine awps_stp0 rfl rfl (by decide) (stp_pick rfl rfl rfl) ?_
    refine awps_stp0 rfl rfl (by decide) (stp_move (.inl rfl) rfl) ?_
    refine awps_split 24 rfl (fun g24 => ?_) (fun g24 => ?_)
    · try simp only [↓str_beq_t, ↓str_beq_f, decide_eq_true_eq, decide_eq_false_iff_not, Bool.not_eq_true', Bool.not_eq_false', Int.not_lt, Int.not_le, beq_iff_eq, beq_eq_false_iff_ne, bne_iff_ne, bne_eq_false_iff_eq, ne_eq] at g24
      first | refine awps_g0 rfl rfl rfl (by decide) rfl (by decide) (stp_fieldAddr rfl fo_api_Term_2 rfl) ?_ | refine awps_g0 rfl rfl rfl (by decide) rfl (by decide) (stp_fieldAddr_elp rfl fo_api_Term_2 rfl) ?_
      first | refine awps_g0 rfl rfl rfl (by decide) rfl (by decide) (stp_load rfl tf_int rfl rfl rfl rfl rfl) ?_ | refine awps_g0 rfl rfl rfl (by decide) rfl (by decide) (stp_load_elp1 rfl tf_int rfl) ?_ | refine awps_g0 rfl rfl rfl (by decide) rfl (by decide) (stp_load_elpn rfl tf_int rfl rfl rfl) ?_
      refine awps_g0 rfl rfl rfl (by decide) rfl (by decide) (stp_binI rfl rfl rfl rfl) ?_
      refine awps_stp0 rfl rfl (by decide) (stp_pick rfl rfl rfl) ?_
      refine awps_stp0 rfl rfl (by decide) (stp_move (.inr rfl) rfl) ?_
      refine awps_nil ?_
      refine thenQ_nil ?_
      refine awp_ret ?_
      -- leaf g19Tg24T
      refine ret0 (noL hL) (.inl rfl) (resAs_tmp rfl (resAs_nil)) ?_ ?_
      · rfl
      first
      | exact absurd trivial g19
      | exact absurd trivial g24
      | exact ⟨rfl, rfl⟩
    try simp only [↓str_beq_t, ↓str_beq_f, decide_eq_true_eq, decide_eq_false_iff_not, Bool.not_eq_true', Bool.not_eq_false', Int.not_lt, Int.not_le, beq_iff_eq, beq_eq_false_iff_ne, bne_iff_ne, bne_eq_false_iff_eq, ne_eq] at g24
    refine awps_gs rfl rfl rfl rfl (by decide) rfl (by decide) ?_
    refine awps_gs rfl rfl rfl rfl (by decide) rfl (by decide) ?_
    refine awps_gs rfl rfl rfl rfl (by decide) rfl (by decide) ?_
    refine awps_stp0 rfl rfl (by decide) (stp_pick rfl rfl rfl) ?_
    refine awps_stp0 rfl rfl (by decide) (stp_move (.inr rfl) rfl) ?_
    refine awps_nil ?_
    refine thenQ_nil ?_
    refine awp_ret ?_
    -- leaf g19Tg24F
    refine ret0 (noL hL) (.inl rfl) (resAs_tmp rfl (resAs_nil)) ?_ ?_
    · rfl
    first
    | exact absurd trivial g19
    | exact absurd trivial g24
    | exact ⟨rfl, rfl⟩
  try simp only [↓str_beq_t, ↓str_beq_f, decide_eq_true_eq, decide_eq_false_iff_not, Bool.not_eq_true', Bool.not_eq_false', Int.not_lt, Int.not_le, beq_iff_eq, beq_eq_false_iff_ne, bne_iff_ne, bne_eq_false_iff_eq, ne_eq] at g19
  refine awps_gs rfl rfl rfl rfl (by decide) rfl (by decide) ?_
  refine awps_gs rfl rfl rfl rfl (by decide) rfl (by decide) ?_
  refine awps_gs rfl rfl rfl rfl (by decide) rfl (by decide) ?_
  refine awps_stp0 rfl rfl (by decide) (stp_pick rfl rfl rfl) ?_
  refine awps_stp0 rfl rfl (by decide) (stp_move (.inl rfl) rfl) ?_
  refine awps_gs rfl rfl rfl rfl (by decide) rfl (by decide) ?_
  refine awps_gs rfl rfl rfl rfl (by decide) rfl (by decide) ?_
  refine awps_gs rfl rfl rfl rfl (by decide) rfl (by decide) ?_
  refine awps_stp0 rfl rfl (by decide) (stp_pick rfl rfl rfl) ?_
  refine awps_stp0 rfl rfl (by decide) (stp_move (.inr rfl) rfl) ?_
  refine awps_nil ?_
  refine thenQ_nil ?_
  refine awp_ret ?_
  -- leaf g19F
  refine ret0 (noL hL) (.inl rfl) (resAs_tmp rfl (resAs_nil)) ?_ ?_
  · rfl
  first
  | exact absurd trivial g19
  | exact absurd trivial g24
  | exact ⟨rfl, rfl⟩
abbrev sQx : ByteArray := ⟨#[81, 120]⟩
theorem BindTwice_ok (p : Ask2) (hp : p.wf) : PF 7 [.agg (lift false (a2D p))] (bv true) := by
  obtain ⟨l, T, S⟩ := p
  obtain ⟨⟨hl, hwB⟩, ⟨hlT, hwT⟩, hlS, hwS⟩ := id hp
  have hlen := bdlDs_length l
  have hlen2 : (bdlDs (Ask2.mk l T S).B).length = l.length := hlen
  have hlt := tmDs_length T
  have hlt2 : (tmDs (Ask2.mk l T S).T).length = T.length := hlt
  simp only [lenOk] at hl hlT
  refine AC_intro Try.func7 rfl Try.ntmps7 (Nat.le_of_ble_eq_true rfl) fun c hL hQ => ?_
  refine awp_seq ?_
  refine awp_region ?_
  refine awps_stp1 rfl rfl (by decide) (stp_box 1 rfl rfl rfl) rfl ?_
  refine awps_stp0 rfl rfl (by decide) (stp_move (.inr rfl) rfl) ?_
  refine awps_nil ?_
  refine thenQ_nil ?_
  refine awp_seq ?_
  refine awp_seq ?_
  refine awp_region ?_
  first | refine awps_stp0 rfl rfl (by decide) (stp_load_all rfl tf_almagestlaw2_Ask rfl rfl rfl rfl) ?_ | refine awps_stp0 rfl rfl (by decide) (stp_load rfl tf_almagestlaw2_Ask rfl rfl rfl rfl rfl) ?_ | refine awps_stp0 rfl rfl (by decide) (stp_load_elpa rfl tf_almagestlaw2_Ask rfl rfl) ?_ | refine awps_stp0 rfl rfl (by decide) (stp_load_elpn rfl tf_almagestlaw2_Ask rfl rfl rfl) ?_
  refine awps_call (avs := [_]) true rfl rfl rfl (by decide) en_almagestlaw2_Heavy rfl rfl (Heavy2_ok _ (by assumption)) rfl rfl ?_
  refine awps_nil ?_
  refine thenQ_nil ?_
  refine awp_cond rfl (fun c0 => ?_) (fun c0 => ?_)
  · try simp only [↓str_beq_t, ↓str_beq_f, decide_eq_true_eq, decide_eq_false_iff_not, Bool.not_eq_true', Bool.not_eq_false', Int.not_lt, Int.not_le, beq_iff_eq, beq_eq_false_iff_ne, bne_iff_ne, bne_eq_false_iff_eq, ne_eq] at c0
    refine awp_seq ?_
    refine awp_region ?_
    refine awps_stp0 rfl rfl (by decide) (stp_move (.inr rfl) rfl) ?_
    refine awps_nil ?_
    refine thenQ_nil ?_
    refine awp_ret ?_
    refine thenQ_ret (?_)
    -- leaf 0T
    refine ret0 (noL hL) (.inl rfl) (resAs_tmp rfl (resAs_nil)) ?_ ?_
    · rfl
    first
    | exact ⟨rfl, rfl⟩
    | exact absurd hz1 (by assumption)
    | exact absurd hge (by assumption)
    | exact absurd hj1 (by assumption)
    | (exfalso; rw [hz2, hes] at c4; cases c4; done)
    | (exfalso; rw [hgt, hes] at g105; cases g105; done)
    | (exfalso; rw [if_pos hmb] at c6; exact absurd rfl c6)
    | (exfalso; rw [← hj2, hjs] at c8; cases c8; done)
    | (trace_state; fail)
  try simp only [↓str_beq_t, ↓str_beq_f, decide_eq_true_eq, decide_eq_false_iff_not, Bool.not_eq_true', Bool.not_eq_false', Int.not_lt, Int.not_le, beq_iff_eq, beq_eq_false_iff_ne, bne_iff_ne, bne_eq_false_iff_eq, ne_eq] at c0
  refine awp_skip ?_
  refine thenQ_nil ?_
  refine awp_seq ?_
  refine awp_seq ?_
  refine awp_region ?_
  refine awps_stp0 rfl rfl (by decide) (stp_move (.inr rfl) rfl) ?_
  refine awps_nil ?_
  refine thenQ_nil ?_
  refine awp_block ?_
  refine awp_while (6) (fun _ => True) (fun k => ⟨[(1, .ptr 1 0), (3, iv (k : Int))], [(1, .box (lift false (a2D ⟨l, T, S⟩)))]⟩) (trivial) ?_ (fun k hk hp => ?_)
  · exact sub_re (SubT.cons (lk_eq rfl (by first | rfl | simp)) (SubT.cons (lk_eq rfl (by first | rfl | simp)) (SubT.nil))) (SubO.cons (ok_eq rfl (by rfl)) (SubO.nil)) rfl rfl (noL' (noL hL) _)
  refine awp_seq ?_
  refine awp_seq ?_
  refine awp_region ?_
  refine awps_stp0 rfl rfl (by decide) (stp_move (.inl rfl) rfl) ?_
  first | refine awps_stp0 rfl rfl (by decide) (stp_fieldAddr rfl fo_almagestlaw2_Ask_0 rfl) ?_ | refine awps_stp0 rfl rfl (by decide) (stp_fieldAddr_elp rfl fo_almagestlaw2_Ask_0 rfl) ?_
  first | refine awps_stp0 rfl rfl (by decide) (stp_load rfl tf_S_S_api_Bind rfl rfl rfl rfl rfl) ?_ | refine awps_stp0 rfl rfl (by decide) (stp_load_elp1 rfl tf_S_S_api_Bind rfl) ?_ | refine awps_stp0 rfl rfl (by decide) (stp_load_elpn rfl tf_S_S_api_Bind rfl rfl rfl) ?_
  first | refine awps_stp0 rfl rfl (by decide) (stp_len_dat rfl sl_S_S_api_Bind rfl) ?_ | refine awps_stp0 rfl rfl (by decide) (stp_len_rowd rfl sl_S_S_api_Bind rfl rfl) ?_ | refine awps_stp0 rfl rfl (by decide) (stp_len_nil rfl sl_S_S_api_Bind rfl) ?_ | refine awps_stp0 rfl rfl (by decide) (stp_len_vw rfl sl_S_S_api_Bind rfl) ?_
  refine awps_stp0 rfl rfl (by decide) (stp_binI rfl rfl rfl rfl) ?_
  refine awps_stp0 rfl rfl (by decide) (stp_move (.inl rfl) rfl) ?_
  refine awps_split 25 rfl (fun g25 => ?_) (fun g25 => ?_)
  · try simp only [↓str_beq_t, ↓str_beq_f, decide_eq_true_eq, decide_eq_false_iff_not, Bool.not_eq_true', Bool.not_eq_false', Int.not_lt, Int.not_le, beq_iff_eq, beq_eq_false_iff_ne, bne_iff_ne, bne_eq_false_iff_eq, ne_eq] at g25
    refine awps_g0 rfl rfl rfl (by decide) rfl (by decide) (stp_move (.inl rfl) rfl) ?_
    refine awps_g0 rfl rfl rfl (by decide) rfl (by decide) (stp_binI rfl rfl rfl rfl) ?_
    refine awps_stp0 rfl rfl (by decide) (stp_pick rfl rfl rfl) ?_
    refine awps_nil ?_
    refine thenQ_nil ?_
    refine awp_cond rfl (fun c1 => ?_) (fun c1 => ?_)
    · try simp only [↓str_beq_t, ↓str_beq_f, decide_eq_true_eq, decide_eq_false_iff_not, Bool.not_eq_true', Bool.not_eq_false', Int.not_lt, Int.not_le, beq_iff_eq, beq_eq_false_iff_ne, bne_iff_ne, bne_eq_false_iff_eq, ne_eq] at c1
      obtain ⟨bs, hbs⟩ := get_of_lt (l := l) (k := k) (by omega)
      have hbw := (hwB bs (List.mem_of_getElem? hbs)).2
      refine awp_skip ?_
      refine thenQ_nil ?_
      refine awp_seq ?_
      refine awp_block ?_
      refine awp_seq ?_
      refine awp_seq ?_
      refine awp_region ?_
      refine awps_stp0 rfl rfl (by decide) (stp_move (.inr rfl) rfl) ?_
      refine awps_nil ?_
      refine thenQ_nil ?_
      refine awp_block ?_
      refine awp_while (6) (fun _ => True) (fun j => ⟨[(1, .ptr 1 0), (3, iv (k : Int)), (4, iv (j : Int))], [(1, .box (lift false (a2D ⟨l, T, S⟩)))]⟩) (trivial) ?_ (fun j hj hpj => ?_)
      · exact sub_re (SubT.cons (lk_eq rfl (by first | rfl | simp)) (SubT.cons (lk_eq rfl (by first | rfl | simp)) (SubT.cons (lk_eq rfl (by first | rfl | simp)) (SubT.nil)))) (SubO.cons (ok_eq rfl (by rfl)) (SubO.nil)) rfl rfl (noL' (noL hL) _)
      refine awp_seq ?_
      refine awp_seq ?_
      refine awp_region ?_
      refine awps_stp0 rfl rfl (by decide) (stp_move (.inl rfl) rfl) ?_
      first | refine awps_stp0 rfl rfl (by decide) (stp_fieldAddr rfl fo_almagestlaw2_Ask_1 rfl) ?_ | refine awps_stp0 rfl rfl (by decide) (stp_fieldAddr_elp rfl fo_almagestlaw2_Ask_1 rfl) ?_
      first | refine awps_stp0 rfl rfl (by decide) (stp_load rfl tf_S_api_Term rfl rfl rfl rfl rfl) ?_ | refine awps_stp0 rfl rfl (by decide) (stp_load_elp1 rfl tf_S_api_Term rfl) ?_ | refine awps_stp0 rfl rfl (by decide) (stp_load_elpn rfl tf_S_api_Term rfl rfl rfl) ?_
      first | refine awps_stp0 rfl rfl (by decide) (stp_len_dat rfl sl_S_api_Term rfl) ?_ | refine awps_stp0 rfl rfl (by decide) (stp_len_rowd rfl sl_S_api_Term rfl rfl) ?_ | refine awps_stp0 rfl rfl (by decide) (stp_len_nil rfl sl_S_api_Term rfl) ?_ | refine awps_stp0 rfl rfl (by decide) (stp_len_vw rfl sl_S_api_Term rfl) ?_
      refine awps_stp0 rfl rfl (by decide) (stp_binI rfl rfl rfl rfl) ?_
      refine awps_stp0 rfl rfl (by decide) (stp_move (.inl rfl) rfl) ?_
      refine awps_split 36 rfl (fun g36 => ?_) (fun g36 => ?_)
      · try simp only [↓str_beq_t, ↓str_beq_f, decide_eq_true_eq, decide_eq_false_iff_not, Bool.not_eq_true', Bool.not_eq_false', Int.not_lt, Int.not_le, beq_iff_eq, beq_eq_false_iff_ne, bne_iff_ne, bne_eq_false_iff_eq, ne_eq] at g36
        refine awps_g0 rfl rfl rfl (by decide) rfl (by decide) (stp_move (.inl rfl) rfl) ?_
        refine awps_g0 rfl rfl rfl (by decide) rfl (by decide) (stp_binI rfl rfl rfl rfl) ?_
        refine awps_stp0 rfl rfl (by decide) (stp_pick rfl rfl rfl) ?_
        refine awps_nil ?_
        refine thenQ_nil ?_
        refine awp_cond rfl (fun c2 => ?_) (fun c2 => ?_)
        · try simp only [↓str_beq_t, ↓str_beq_f, decide_eq_true_eq, decide_eq_false_iff_not, Bool.not_eq_true', Bool.not_eq_false', Int.not_lt, Int.not_le, beq_iff_eq, beq_eq_false_iff_ne, bne_iff_ne, bne_eq_false_iff_eq, ne_eq] at c2
          obtain ⟨t, ht⟩ := get_of_lt (l := T) (k := j) (by omega)
          have htw := Tm.wfs_get hwT ht
          have hat := applyT_wf hbw htw
          refine awp_skip ?_
          refine thenQ_nil ?_
          refine awp_seq ?_
          refine awp_block ?_
          refine awp_seq ?_
          refine awp_drawG 16 mixed rfl rfl rfl rfl ?_
          first | refine MGo_c0 rfl (by decide) (.run rfl (stp_fieldAddr rfl fo_almagestlaw2_Ask_0 rfl)) ?_ | refine MGo_c0 rfl (by decide) (.run rfl (stp_fieldAddr_elp rfl fo_almagestlaw2_Ask_0 rfl)) ?_
          first | refine MGo_c0 rfl (by decide) (.run rfl (stp_load rfl tf_S_S_api_Bind rfl rfl rfl rfl rfl)) ?_ | refine MGo_c0 rfl (by decide) (.run rfl (stp_load_elp1 rfl tf_S_S_api_Bind rfl)) ?_ | refine MGo_c0 rfl (by decide) (.run rfl (stp_load_elpn rfl tf_S_S_api_Bind rfl rfl rfl)) ?_
          refine MGo_c0 rfl (by decide) (.run rfl (stp_move (.inl rfl) rfl)) ?_
          first | refine MGo_c0 rfl (by decide) (.run rfl (stp_indexAddr rfl sl_S_S_api_Bind rfl rfl (by omega) (bdlDs_get hbs))) ?_ | refine MGo_c0 rfl (by decide) (.run rfl (stp_indexAddr_rowd rfl sl_S_S_api_Bind rfl rfl rfl (by omega) (bdlDs_get hbs))) ?_ | refine MGo_c0 rfl (by decide) (.run rfl (stp_indexAddr_row rfl sl_S_S_api_Bind rfl rfl rfl (by omega) (bdlDs_get hbs) (by decide))) ?_
          first | refine MGo_c0 rfl (by decide) (.run rfl (stp_load rfl tf_S_api_Bind rfl rfl rfl rfl rfl)) ?_ | refine MGo_c0 rfl (by decide) (.run rfl (stp_load_elp1 rfl tf_S_api_Bind rfl)) ?_ | refine MGo_c0 rfl (by decide) (.run rfl (stp_load_elpn rfl tf_S_api_Bind rfl rfl rfl)) ?_
          first | refine MGo_c0 rfl (by decide) (.run rfl (stp_fieldAddr rfl fo_almagestlaw2_Ask_1 rfl)) ?_ | refine MGo_c0 rfl (by decide) (.run rfl (stp_fieldAddr_elp rfl fo_almagestlaw2_Ask_1 rfl)) ?_
          first | refine MGo_c0 rfl (by decide) (.run rfl (stp_load rfl tf_S_api_Term rfl rfl rfl rfl rfl)) ?_ | refine MGo_c0 rfl (by decide) (.run rfl (stp_load_elp1 rfl tf_S_api_Term rfl)) ?_ | refine MGo_c0 rfl (by decide) (.run rfl (stp_load_elpn rfl tf_S_api_Term rfl rfl rfl)) ?_
          refine MGo_c0 rfl (by decide) (.run rfl (stp_move (.inl rfl) rfl)) ?_
          first | refine MGo_c0 rfl (by decide) (.run rfl (stp_indexAddr rfl sl_S_api_Term rfl rfl (by omega) (tmDs_get ht))) ?_ | refine MGo_c0 rfl (by decide) (.run rfl (stp_indexAddr_rowd rfl sl_S_api_Term rfl rfl rfl (by omega) (tmDs_get ht))) ?_ | refine MGo_c0 rfl (by decide) (.run rfl (stp_indexAddr_row rfl sl_S_api_Term rfl rfl rfl (by omega) (tmDs_get ht) (by decide))) ?_
          first | refine MGo_c0 rfl (by decide) (.run rfl (stp_load_all rfl tf_api_Term rfl rfl rfl rfl)) ?_ | refine MGo_c0 rfl (by decide) (.run rfl (stp_load rfl tf_api_Term rfl rfl rfl rfl rfl)) ?_ | refine MGo_c0 rfl (by decide) (.run rfl (stp_load_elpa rfl tf_api_Term rfl rfl)) ?_ | refine MGo_c0 rfl (by decide) (.run rfl (stp_load_elpn rfl tf_api_Term rfl rfl rfl)) ?_
          refine MGo_c0 rfl (by decide) (.run rfl (stp_call (avs := [_, _]) true rfl en_bind_Apply rfl rfl (Apply_ok bs hbw t htw) (fun _ => rfl) rfl)) ?_
          refine MGo_c0 rfl (by decide) (.run rfl (stp_move (.inl rfl) rfl)) ?_
          refine MGo_c0 rfl (by decide) (.run rfl (stp_extract rfl rfl rfl)) ?_
          refine MGo_c0 rfl (by decide) (.run rfl (stp_extract rfl rfl rfl)) ?_
          refine MGo_c1 rfl (by decide) (.run rfl (stp_alloc 5 rfl zv_api_Term rfl)) ?_
          refine MGo_un rfl rfl (stpU_store rfl rfl tf_api_Term rfl rfl rfl rfl rfl rfl rfl rfl rfl) ?_
          refine MGo_nil ⟨rfl, rfl, ?_⟩
          refine awps_stp0 rfl rfl (by decide) (stp_move (.inr rfl) rfl) ?_
          refine awps_nil ?_
          refine thenQ_nil ?_
          refine awp_seq ?_
          refine awp_seq ?_
          refine awp_sub (sub_untag hQ) ?_
          refine awp_region ?_
          refine awps_stp0 rfl rfl (by decide) (stp_move (.inl rfl) rfl) ?_
          refine awps_call (avs := [_]) true rfl rfl rfl (by decide) en_almagestlaw2_num rfl rfl (num2_ok _) rfl rfl ?_
          refine awps_stp0 rfl rfl (by decide) (stp_binI rfl rfl rfl rfl) ?_
          refine awps_nil ?_
          refine thenQ_nil ?_
          refine awp_cond rfl (fun c3 => ?_) (fun c3 => ?_)
          · try simp only [↓str_beq_t, ↓str_beq_f, decide_eq_true_eq, decide_eq_false_iff_not, Bool.not_eq_true', Bool.not_eq_false', Int.not_lt, Int.not_le, beq_iff_eq, beq_eq_false_iff_ne, bne_iff_ne, bne_eq_false_iff_eq, ne_eq] at c3
            refine awp_exit ?_
            refine thenQ_exit (inQ_hit ?_)
            refine thenQ_nil ?_
            refine awp_region ?_
            refine awps_stp0 rfl rfl (by decide) (stp_move (.inl rfl) rfl) ?_
            refine awps_stp0 rfl rfl (by decide) (stp_add rfl rfl rfl (by omega)) ?_
            refine awps_stp0 rfl rfl (by decide) (stp_move (.inr rfl) rfl) ?_
            refine awps_nil ?_
            refine thenQ_nil ?_
            refine ⟨?_, ?_, ?_⟩
            · skip
              omega
            · skip
              trivial
            exact sub_re (SubT.cons (lk_eq rfl (by first | rfl | simp)) (SubT.cons (lk_eq rfl (by first | rfl | simp)) (SubT.cons (lk_eq rfl (by first | rfl | simp)) (SubT.nil)))) (SubO.cons (ok_eq rfl (by rfl)) (SubO.nil)) rfl rfl (noL' (noL hL) _)
          try simp only [↓str_beq_t, ↓str_beq_f, decide_eq_true_eq, decide_eq_false_iff_not, Bool.not_eq_true', Bool.not_eq_false', Int.not_lt, Int.not_le, beq_iff_eq, beq_eq_false_iff_ne, bne_iff_ne, bne_eq_false_iff_eq, ne_eq] at c3
          obtain ⟨hz1, hz2⟩ := apply_twice hbw c3
          obtain ⟨_, _, hmp, hpe⟩ := apply_zero c3
          have hda : dle 5 (applyT bs t) := by rw [hpe]; exact may_dle hmp
          have hes := eqT_self hda
          have hsw := setL_wf hbw (s := sQx) (by decide) hat
          refine awp_skip ?_
          refine thenQ_nil ?_
          refine awp_seq ?_
          refine awp_drawG 12 mixed rfl rfl rfl rfl ?_
          first | refine MGo_c0 rfl (by decide) (.run rfl (stp_fieldAddr rfl fo_almagestlaw2_Ask_0 rfl)) ?_ | refine MGo_c0 rfl (by decide) (.run rfl (stp_fieldAddr_elp rfl fo_almagestlaw2_Ask_0 rfl)) ?_
          first | refine MGo_c0 rfl (by decide) (.run rfl (stp_load rfl tf_S_S_api_Bind rfl rfl rfl rfl rfl)) ?_ | refine MGo_c0 rfl (by decide) (.run rfl (stp_load_elp1 rfl tf_S_S_api_Bind rfl)) ?_ | refine MGo_c0 rfl (by decide) (.run rfl (stp_load_elpn rfl tf_S_S_api_Bind rfl rfl rfl)) ?_
          refine MGo_c0 rfl (by decide) (.run rfl (stp_move (.inl rfl) rfl)) ?_
          first | refine MGo_c0 rfl (by decide) (.run rfl (stp_indexAddr rfl sl_S_S_api_Bind rfl rfl (by omega) (bdlDs_get hbs))) ?_ | refine MGo_c0 rfl (by decide) (.run rfl (stp_indexAddr_rowd rfl sl_S_S_api_Bind rfl rfl rfl (by omega) (bdlDs_get hbs))) ?_ | refine MGo_c0 rfl (by decide) (.run rfl (stp_indexAddr_row rfl sl_S_S_api_Bind rfl rfl rfl (by omega) (bdlDs_get hbs) (by decide))) ?_
          first | refine MGo_c0 rfl (by decide) (.run rfl (stp_load rfl tf_S_api_Bind rfl rfl rfl rfl rfl)) ?_ | refine MGo_c0 rfl (by decide) (.run rfl (stp_load_elp1 rfl tf_S_api_Bind rfl)) ?_ | refine MGo_c0 rfl (by decide) (.run rfl (stp_load_elpn rfl tf_S_api_Bind rfl rfl rfl)) ?_
          first | refine MGo_c0 rfl (by decide) (.run rfl (stp_load_all rfl tf_api_Term rfl rfl rfl rfl)) ?_ | refine MGo_c0 rfl (by decide) (.run rfl (stp_load rfl tf_api_Term rfl rfl rfl rfl rfl)) ?_ | refine MGo_c0 rfl (by decide) (.run rfl (stp_load_elpa rfl tf_api_Term rfl rfl)) ?_ | refine MGo_c0 rfl (by decide) (.run rfl (stp_load_elpn rfl tf_api_Term rfl rfl rfl)) ?_
          refine MGo_c0 rfl (by decide) (.run rfl (stp_call (avs := [_, _]) true rfl en_bind_Apply rfl rfl (Apply_ok bs hbw (applyT bs t) hat) (fun _ => rfl) rfl)) ?_
          refine MGo_c0 rfl (by decide) (.run rfl (stp_move (.inl rfl) rfl)) ?_
          refine MGo_c0 rfl (by decide) (.run rfl (stp_extract rfl rfl rfl)) ?_
          refine MGo_c0 rfl (by decide) (.run rfl (stp_extract rfl rfl rfl)) ?_
          refine MGo_c1 rfl (by decide) (.run rfl (stp_alloc 7 rfl zv_api_Term rfl)) ?_
          refine MGo_un rfl rfl (stpU_store rfl rfl tf_api_Term rfl rfl rfl rfl rfl rfl rfl rfl rfl) ?_
          refine MGo_nil ⟨rfl, rfl, ?_⟩
          refine awps_stp0 rfl rfl (by decide) (stp_move (.inr rfl) rfl) ?_
          refine awps_nil ?_
          refine thenQ_nil ?_
          refine awp_seq ?_
          refine awp_seq ?_
          refine awp_sub (sub_untag hQ) ?_
          refine awp_region ?_
          refine awps_stp0 rfl rfl (by decide) (stp_move (.inl rfl) rfl) ?_
          refine awps_call (avs := [_]) true rfl rfl rfl (by decide) en_almagestlaw2_num rfl rfl (num2_ok _) rfl rfl ?_
          refine awps_stp0 rfl rfl (by decide) (stp_binI rfl rfl rfl rfl) ?_
          refine awps_stp0 rfl rfl (by decide) (stp_move (.inl rfl) rfl) ?_
          refine awps_split 72 rfl (fun g72 => ?_) (fun g72 => ?_)
          · try simp only [↓str_beq_t, ↓str_beq_f, decide_eq_true_eq, decide_eq_false_iff_not, Bool.not_eq_true', Bool.not_eq_false', Int.not_lt, Int.not_le, beq_iff_eq, beq_eq_false_iff_ne, bne_iff_ne, bne_eq_false_iff_eq, ne_eq] at g72
            refine awps_gs rfl rfl rfl rfl (by decide) rfl (by decide) ?_
            refine awps_gs rfl rfl rfl rfl (by decide) rfl (by decide) ?_
            refine awps_gs rfl rfl rfl rfl (by decide) rfl (by decide) ?_
            refine awps_gs rfl rfl rfl rfl (by decide) rfl (by decide) ?_
            refine awps_stp0 rfl rfl (by decide) (stp_pick rfl rfl rfl) ?_
            refine awps_nil ?_
            refine thenQ_nil ?_
            refine awp_condT rfl ?_
            refine awp_seq ?_
            refine awp_region ?_
            refine awps_stp0 rfl rfl (by decide) (stp_move (.inr rfl) rfl) ?_
            refine awps_nil ?_
            refine thenQ_nil ?_
            refine awp_ret ?_
            refine thenQ_ret (inQ_ret (thenQ_ret (thenQ_ret (inQ_ret (thenQ_ret (inQ_ret (thenQ_ret (thenQ_ret (inQ_ret (thenQ_ret (?_)))))))))))
            -- leaf 0Fg25T1Tg36T2T3Fg72T
            refine ret0 (noL hL) (.inl rfl) (resAs_tmp rfl (resAs_nil)) ?_ ?_
            · rfl
            first
            | exact ⟨rfl, rfl⟩
            | exact absurd hz1 (by assumption)
            | exact absurd hge (by assumption)
            | exact absurd hj1 (by assumption)
            | (exfalso; rw [hz2, hes] at c4; cases c4; done)
            | (exfalso; rw [hgt, hes] at g105; cases g105; done)
            | (exfalso; rw [if_pos hmb] at c6; exact absurd rfl c6)
            | (exfalso; rw [← hj2, hjs] at c8; cases c8; done)
            | (trace_state; fail)
          try simp only [↓str_beq_t, ↓str_beq_f, decide_eq_true_eq, decide_eq_false_iff_not, Bool.not_eq_true', Bool.not_eq_false', Int.not_lt, Int.not_le, beq_iff_eq, beq_eq_false_iff_ne, bne_iff_ne, bne_eq_false_iff_eq, ne_eq] at g72
          first | refine awps_g0 rfl rfl rfl (by decide) rfl (by decide) (stp_load_all rfl tf_api_Term rfl rfl rfl rfl) ?_ | refine awps_g0 rfl rfl rfl (by decide) rfl (by decide) (stp_load rfl tf_api_Term rfl rfl rfl rfl rfl) ?_ | refine awps_g0 rfl rfl rfl (by decide) rfl (by decide) (stp_load_elpa rfl tf_api_Term rfl rfl) ?_ | refine awps_g0 rfl rfl rfl (by decide) rfl (by decide) (stp_load_elpn rfl tf_api_Term rfl rfl rfl) ?_
          first | refine awps_g0 rfl rfl rfl (by decide) rfl (by decide) (stp_load_all rfl tf_api_Term rfl rfl rfl rfl) ?_ | refine awps_g0 rfl rfl rfl (by decide) rfl (by decide) (stp_load rfl tf_api_Term rfl rfl rfl rfl rfl) ?_ | refine awps_g0 rfl rfl rfl (by decide) rfl (by decide) (stp_load_elpa rfl tf_api_Term rfl rfl) ?_ | refine awps_g0 rfl rfl rfl (by decide) rfl (by decide) (stp_load_elpn rfl tf_api_Term rfl rfl rfl) ?_
          refine awps_g0 rfl rfl rfl (by decide) rfl (by decide) (stp_call (avs := [_, _]) true rfl en_almagestref0_EqTerm rfl rfl (EqTerm_ok 5 (applyT bs t) (applyT bs (applyT bs t)) hda hat (applyT_wf hbw hat)) (fun _ => rfl) rfl) ?_
          refine awps_g0 rfl rfl rfl (by decide) rfl (by decide) (stp_not rfl rfl) ?_
          refine awps_stp0 rfl rfl (by decide) (stp_pick rfl rfl rfl) ?_
          refine awps_nil ?_
          refine thenQ_nil ?_
          refine awp_cond rfl (fun c4 => ?_) (fun c4 => ?_)
          · try simp only [↓str_beq_t, ↓str_beq_f, decide_eq_true_eq, decide_eq_false_iff_not, Bool.not_eq_true', Bool.not_eq_false', Int.not_lt, Int.not_le, beq_iff_eq, beq_eq_false_iff_ne, bne_iff_ne, bne_eq_false_iff_eq, ne_eq] at c4
            refine awp_seq ?_
            refine awp_region ?_
            refine awps_stp0 rfl rfl (by decide) (stp_move (.inr rfl) rfl) ?_
            refine awps_nil ?_
            refine thenQ_nil ?_
            refine awp_ret ?_
            refine thenQ_ret (inQ_ret (thenQ_ret (thenQ_ret (inQ_ret (thenQ_ret (inQ_ret (thenQ_ret (thenQ_ret (inQ_ret (thenQ_ret (?_)))))))))))
            -- leaf 0Fg25T1Tg36T2T3Fg72F4T
            refine ret0 (noL hL) (.inl rfl) (resAs_tmp rfl (resAs_nil)) ?_ ?_
            · rfl
            first
            | exact ⟨rfl, rfl⟩
            | exact absurd hz1 (by assumption)
            | exact absurd hge (by assumption)
            | exact absurd hj1 (by assumption)
            | (exfalso; rw [hz2, hes] at c4; cases c4; done)
            | (exfalso; rw [hgt, hes] at g105; cases g105; done)
            | (exfalso; rw [if_pos hmb] at c6; exact absurd rfl c6)
            | (exfalso; rw [← hj2, hjs] at c8; cases c8; done)
            | (trace_state; fail)
          try simp only [↓str_beq_t, ↓str_beq_f, decide_eq_true_eq, decide_eq_false_iff_not, Bool.not_eq_true', Bool.not_eq_false', Int.not_lt, Int.not_le, beq_iff_eq, beq_eq_false_iff_ne, bne_iff_ne, bne_eq_false_iff_eq, ne_eq] at c4
          refine awp_skip ?_
          refine thenQ_nil ?_
          refine awp_seq ?_
          refine awp_drawG 11 mixed rfl rfl rfl rfl ?_
          first | refine MGo_c0 rfl (by decide) (.run rfl (stp_fieldAddr rfl fo_almagestlaw2_Ask_0 rfl)) ?_ | refine MGo_c0 rfl (by decide) (.run rfl (stp_fieldAddr_elp rfl fo_almagestlaw2_Ask_0 rfl)) ?_
          first | refine MGo_c0 rfl (by decide) (.run rfl (stp_load rfl tf_S_S_api_Bind rfl rfl rfl rfl rfl)) ?_ | refine MGo_c0 rfl (by decide) (.run rfl (stp_load_elp1 rfl tf_S_S_api_Bind rfl)) ?_ | refine MGo_c0 rfl (by decide) (.run rfl (stp_load_elpn rfl tf_S_S_api_Bind rfl rfl rfl)) ?_
          refine MGo_c0 rfl (by decide) (.run rfl (stp_move (.inl rfl) rfl)) ?_
          first | refine MGo_c0 rfl (by decide) (.run rfl (stp_indexAddr rfl sl_S_S_api_Bind rfl rfl (by omega) (bdlDs_get hbs))) ?_ | refine MGo_c0 rfl (by decide) (.run rfl (stp_indexAddr_rowd rfl sl_S_S_api_Bind rfl rfl rfl (by omega) (bdlDs_get hbs))) ?_ | refine MGo_c0 rfl (by decide) (.run rfl (stp_indexAddr_row rfl sl_S_S_api_Bind rfl rfl rfl (by omega) (bdlDs_get hbs) (by decide))) ?_
          first | refine MGo_c0 rfl (by decide) (.run rfl (stp_load rfl tf_S_api_Bind rfl rfl rfl rfl rfl)) ?_ | refine MGo_c0 rfl (by decide) (.run rfl (stp_load_elp1 rfl tf_S_api_Bind rfl)) ?_ | refine MGo_c0 rfl (by decide) (.run rfl (stp_load_elpn rfl tf_S_api_Bind rfl rfl rfl)) ?_
          first | refine MGo_c0 rfl (by decide) (.run rfl (stp_load_all rfl tf_api_Term rfl rfl rfl rfl)) ?_ | refine MGo_c0 rfl (by decide) (.run rfl (stp_load rfl tf_api_Term rfl rfl rfl rfl rfl)) ?_ | refine MGo_c0 rfl (by decide) (.run rfl (stp_load_elpa rfl tf_api_Term rfl rfl)) ?_ | refine MGo_c0 rfl (by decide) (.run rfl (stp_load_elpn rfl tf_api_Term rfl rfl rfl)) ?_
          refine MGo_c0 rfl (by decide) (.run rfl (stp_call (avs := [_, _, _]) true rfl en_bind_Set rfl rfl (Set_ok bs hbw sQx (by decide) (applyT bs t) hat) (fun _ => rfl) rfl)) ?_
          refine MGo_c0 rfl (by decide) (.run rfl (stp_move (.inl rfl) rfl)) ?_
          refine MGo_c0 rfl (by decide) (.run rfl (stp_extract rfl rfl rfl)) ?_
          refine MGo_c0 rfl (by decide) (.run rfl (stp_extract rfl rfl rfl)) ?_
          refine MGo_c0 rfl (by decide) (.run rfl (stp_move (.inr rfl) rfl)) ?_
          refine MGo_nil ⟨rfl, rfl, ?_⟩
          refine awps_stp0 rfl rfl (by decide) (stp_move (.inr rfl) rfl) ?_
          refine awps_nil ?_
          refine thenQ_nil ?_
          refine awp_seq ?_
          refine awp_seq ?_
          refine awp_sub (sub_untag hQ) ?_
          refine awp_region ?_
          refine awps_stp0 rfl rfl (by decide) (stp_move (.inl rfl) rfl) ?_
          refine awps_call (avs := [_]) true rfl rfl rfl (by decide) en_almagestlaw2_num rfl rfl (num2_ok _) rfl rfl ?_
          refine awps_stp0 rfl rfl (by decide) (stp_binI rfl rfl rfl rfl) ?_
          refine awps_nil ?_
          refine thenQ_nil ?_
          refine awp_cond rfl (fun c5 => ?_) (fun c5 => ?_)
          · try simp only [↓str_beq_t, ↓str_beq_f, decide_eq_true_eq, decide_eq_false_iff_not, Bool.not_eq_true', Bool.not_eq_false', Int.not_lt, Int.not_le, beq_iff_eq, beq_eq_false_iff_ne, bne_iff_ne, bne_eq_false_iff_eq, ne_eq] at c5
            refine awp_exit ?_
            refine thenQ_exit (inQ_hit ?_)
            refine thenQ_nil ?_
            refine awp_region ?_
            refine awps_stp0 rfl rfl (by decide) (stp_move (.inl rfl) rfl) ?_
            refine awps_stp0 rfl rfl (by decide) (stp_add rfl rfl rfl (by omega)) ?_
            refine awps_stp0 rfl rfl (by decide) (stp_move (.inr rfl) rfl) ?_
            refine awps_nil ?_
            refine thenQ_nil ?_
            refine ⟨?_, ?_, ?_⟩
            · skip
              omega
            · skip
              trivial
            exact sub_re (SubT.cons (lk_eq rfl (by first | rfl | simp)) (SubT.cons (lk_eq rfl (by first | rfl | simp)) (SubT.cons (lk_eq rfl (by first | rfl | simp)) (SubT.nil)))) (SubO.cons (ok_eq rfl (by rfl)) (SubO.nil)) rfl rfl (noL' (noL hL) _)
          try simp only [↓str_beq_t, ↓str_beq_f, decide_eq_true_eq, decide_eq_false_iff_not, Bool.not_eq_true', Bool.not_eq_false', Int.not_lt, Int.not_le, beq_iff_eq, beq_eq_false_iff_ne, bne_iff_ne, bne_eq_false_iff_eq, ne_eq] at c5
          obtain ⟨_, hG, hgb, hhas⟩ := set_zero hbw (s := sQx) (by decide) hat c5
          obtain ⟨hge, hgt⟩ := get_of hG hhas
          rw [hgb] at hgt
          have hmb := (mayB_iff hsw).2 hG
          refine awp_skip ?_
          refine thenQ_nil ?_
          refine awp_seq ?_
          refine awp_region ?_
          refine awps_stp0 rfl rfl (by decide) (stp_move (.inl rfl) rfl) ?_
          refine awps_call (avs := [_, _]) true rfl rfl rfl (by decide) en_bind_Get rfl rfl (Get_ok (setL bs sQx (applyT bs t)) hsw sQx) rfl rfl ?_
          refine awps_stp0 rfl rfl (by decide) (stp_move (.inl rfl) rfl) ?_
          refine awps_stp0 rfl rfl (by decide) (stp_extract rfl rfl rfl) ?_
          refine awps_stp0 rfl rfl (by decide) (stp_extract rfl rfl rfl) ?_
          refine awps_stp1 rfl rfl (by decide) (stp_alloc 11 rfl zv_api_Term rfl) rfl ?_
          refine awps_store rfl rfl rfl tf_api_Term rfl rfl rfl rfl rfl rfl rfl rfl rfl ?_
          refine awps_stp0 rfl rfl (by decide) (stp_move (.inr rfl) rfl) ?_
          refine awps_nil ?_
          refine thenQ_nil ?_
          refine awp_seq ?_
          refine awp_sub (sub_untag hQ) ?_
          refine awp_region ?_
          refine awps_stp0 rfl rfl (by decide) (stp_move (.inl rfl) rfl) ?_
          refine awps_call (avs := [_]) true rfl rfl rfl (by decide) en_almagestlaw2_num rfl rfl (num2_ok _) rfl rfl ?_
          refine awps_stp0 rfl rfl (by decide) (stp_binI rfl rfl rfl rfl) ?_
          refine awps_stp0 rfl rfl (by decide) (stp_move (.inl rfl) rfl) ?_
          refine awps_split 99 rfl (fun g99 => ?_) (fun g99 => ?_)
          · try simp only [↓str_beq_t, ↓str_beq_f, decide_eq_true_eq, decide_eq_false_iff_not, Bool.not_eq_true', Bool.not_eq_false', Int.not_lt, Int.not_le, beq_iff_eq, beq_eq_false_iff_ne, bne_iff_ne, bne_eq_false_iff_eq, ne_eq] at g99
            refine awps_gs rfl rfl rfl rfl (by decide) rfl (by decide) ?_
            refine awps_gs rfl rfl rfl rfl (by decide) rfl (by decide) ?_
            refine awps_gs rfl rfl rfl rfl (by decide) rfl (by decide) ?_
            refine awps_gs rfl rfl rfl rfl (by decide) rfl (by decide) ?_
            refine awps_stp0 rfl rfl (by decide) (stp_pick rfl rfl rfl) ?_
            refine awps_stp0 rfl rfl (by decide) (stp_move (.inl rfl) rfl) ?_
            refine awps_gs rfl rfl rfl rfl (by decide) rfl (by decide) ?_
            refine awps_gs rfl rfl rfl rfl (by decide) rfl (by decide) ?_
            refine awps_gs rfl rfl rfl rfl (by decide) rfl (by decide) ?_
            refine awps_gs rfl rfl rfl rfl (by decide) rfl (by decide) ?_
            refine awps_stp0 rfl rfl (by decide) (stp_pick rfl rfl rfl) ?_
            refine awps_nil ?_
            refine thenQ_nil ?_
            refine awp_condT rfl ?_
            refine awp_seq ?_
            refine awp_region ?_
            refine awps_stp0 rfl rfl (by decide) (stp_move (.inr rfl) rfl) ?_
            refine awps_nil ?_
            refine thenQ_nil ?_
            refine awp_ret ?_
            refine inQ_ret (thenQ_ret (thenQ_ret (inQ_ret (thenQ_ret (inQ_ret (thenQ_ret (thenQ_ret (inQ_ret (thenQ_ret (?_))))))))))
            -- leaf 0Fg25T1Tg36T2T3Fg72F4F5Fg99T
            refine ret0 (noL hL) (.inl rfl) (resAs_tmp rfl (resAs_nil)) ?_ ?_
            · rfl
            first
            | exact ⟨rfl, rfl⟩
            | exact absurd hz1 (by assumption)
            | exact absurd hge (by assumption)
            | exact absurd hj1 (by assumption)
            | (exfalso; rw [hz2, hes] at c4; cases c4; done)
            | (exfalso; rw [hgt, hes] at g105; cases g105; done)
            | (exfalso; rw [if_pos hmb] at c6; exact absurd rfl c6)
            | (exfalso; rw [← hj2, hjs] at c8; cases c8; done)
            | (trace_state; fail)
          try simp only [↓str_beq_t, ↓str_beq_f, decide_eq_true_eq, decide_eq_false_iff_not, Bool.not_eq_true', Bool.not_eq_false', Int.not_lt, Int.not_le, beq_iff_eq, beq_eq_false_iff_ne, bne_iff_ne, bne_eq_false_iff_eq, ne_eq] at g99
          first | refine awps_g0 rfl rfl rfl (by decide) rfl (by decide) (stp_load_all rfl tf_api_Term rfl rfl rfl rfl) ?_ | refine awps_g0 rfl rfl rfl (by decide) rfl (by decide) (stp_load rfl tf_api_Term rfl rfl rfl rfl rfl) ?_ | refine awps_g0 rfl rfl rfl (by decide) rfl (by decide) (stp_load_elpa rfl tf_api_Term rfl rfl) ?_ | refine awps_g0 rfl rfl rfl (by decide) rfl (by decide) (stp_load_elpn rfl tf_api_Term rfl rfl rfl) ?_
          first | refine awps_g0 rfl rfl rfl (by decide) rfl (by decide) (stp_load_all rfl tf_api_Term rfl rfl rfl rfl) ?_ | refine awps_g0 rfl rfl rfl (by decide) rfl (by decide) (stp_load rfl tf_api_Term rfl rfl rfl rfl rfl) ?_ | refine awps_g0 rfl rfl rfl (by decide) rfl (by decide) (stp_load_elpa rfl tf_api_Term rfl rfl) ?_ | refine awps_g0 rfl rfl rfl (by decide) rfl (by decide) (stp_load_elpn rfl tf_api_Term rfl rfl rfl) ?_
          refine awps_g0 rfl rfl rfl (by decide) rfl (by decide) (stp_call (avs := [_, _]) true rfl en_almagestref0_EqTerm rfl rfl (EqTerm_ok 5 (getT (setL bs sQx (applyT bs t)) sQx) (applyT bs t) (by rw [hgt]; exact hda) (getT_wf hsw) hat) (fun _ => rfl) rfl) ?_
          refine awps_g0 rfl rfl rfl (by decide) rfl (by decide) (stp_not rfl rfl) ?_
          refine awps_stp0 rfl rfl (by decide) (stp_pick rfl rfl rfl) ?_
          refine awps_stp0 rfl rfl (by decide) (stp_move (.inl rfl) rfl) ?_
          refine awps_split 105 rfl (fun g105 => ?_) (fun g105 => ?_)
          · try simp only [↓str_beq_t, ↓str_beq_f, decide_eq_true_eq, decide_eq_false_iff_not, Bool.not_eq_true', Bool.not_eq_false', Int.not_lt, Int.not_le, beq_iff_eq, beq_eq_false_iff_ne, bne_iff_ne, bne_eq_false_iff_eq, ne_eq] at g105
            refine awps_gs rfl rfl rfl rfl (by decide) rfl (by decide) ?_
            refine awps_gs rfl rfl rfl rfl (by decide) rfl (by decide) ?_
            refine awps_gs rfl rfl rfl rfl (by decide) rfl (by decide) ?_
            refine awps_gs rfl rfl rfl rfl (by decide) rfl (by decide) ?_
            refine awps_stp0 rfl rfl (by decide) (stp_pick rfl rfl rfl) ?_
            refine awps_nil ?_
            refine thenQ_nil ?_
            refine awp_condT rfl ?_
            refine awp_seq ?_
            refine awp_region ?_
            refine awps_stp0 rfl rfl (by decide) (stp_move (.inr rfl) rfl) ?_
            refine awps_nil ?_
            refine thenQ_nil ?_
            refine awp_ret ?_
            refine inQ_ret (thenQ_ret (thenQ_ret (inQ_ret (thenQ_ret (inQ_ret (thenQ_ret (thenQ_ret (inQ_ret (thenQ_ret (?_))))))))))
            -- leaf 0Fg25T1Tg36T2T3Fg72F4F5Fg99Fg105T
            refine ret0 (noL hL) (.inl rfl) (resAs_tmp rfl (resAs_nil)) ?_ ?_
            · rfl
            first
            | exact ⟨rfl, rfl⟩
            | exact absurd hz1 (by assumption)
            | exact absurd hge (by assumption)
            | exact absurd hj1 (by assumption)
            | (exfalso; rw [hz2, hes] at c4; cases c4; done)
            | (exfalso; rw [hgt, hes] at g105; cases g105; done)
            | (exfalso; rw [if_pos hmb] at c6; exact absurd rfl c6)
            | (exfalso; rw [← hj2, hjs] at c8; cases c8; done)
            | (trace_state; fail)
          try simp only [↓str_beq_t, ↓str_beq_f, decide_eq_true_eq, decide_eq_false_iff_not, Bool.not_eq_true', Bool.not_eq_false', Int.not_lt, Int.not_le, beq_iff_eq, beq_eq_false_iff_ne, bne_iff_ne, bne_eq_false_iff_eq, ne_eq] at g105
          refine awps_g0 rfl rfl rfl (by decide) rfl (by decide) (stp_move (.inl rfl) rfl) ?_
          refine awps_g0 rfl rfl rfl (by decide) rfl (by decide) (stp_call (avs := [_]) true rfl en_bind_Check rfl rfl (bindCheck_ok (setL bs sQx (applyT bs t)) hsw) (fun _ => rfl) rfl) ?_
          refine awps_g0 rfl rfl rfl (by decide) rfl (by decide) (stp_call (avs := [_]) true rfl en_almagestlaw2_num rfl rfl (num2_ok _) (fun _ => rfl) rfl) ?_
          refine awps_g0 rfl rfl rfl (by decide) rfl (by decide) (stp_binI rfl rfl rfl rfl) ?_
          refine awps_stp0 rfl rfl (by decide) (stp_pick rfl rfl rfl) ?_
          refine awps_nil ?_
          refine thenQ_nil ?_
          refine awp_cond rfl (fun c6 => ?_) (fun c6 => ?_)
          · try simp only [↓str_beq_t, ↓str_beq_f, decide_eq_true_eq, decide_eq_false_iff_not, Bool.not_eq_true', Bool.not_eq_false', Int.not_lt, Int.not_le, beq_iff_eq, beq_eq_false_iff_ne, bne_iff_ne, bne_eq_false_iff_eq, ne_eq] at c6
            refine awp_seq ?_
            refine awp_region ?_
            refine awps_stp0 rfl rfl (by decide) (stp_move (.inr rfl) rfl) ?_
            refine awps_nil ?_
            refine thenQ_nil ?_
            refine awp_ret ?_
            refine inQ_ret (thenQ_ret (thenQ_ret (inQ_ret (thenQ_ret (inQ_ret (thenQ_ret (thenQ_ret (inQ_ret (thenQ_ret (?_))))))))))
            -- leaf 0Fg25T1Tg36T2T3Fg72F4F5Fg99Fg105F6T
            refine ret0 (noL hL) (.inl rfl) (resAs_tmp rfl (resAs_nil)) ?_ ?_
            · rfl
            first
            | exact ⟨rfl, rfl⟩
            | exact absurd hz1 (by assumption)
            | exact absurd hge (by assumption)
            | exact absurd hj1 (by assumption)
            | (exfalso; rw [hz2, hes] at c4; cases c4; done)
            | (exfalso; rw [hgt, hes] at g105; cases g105; done)
            | (exfalso; rw [if_pos hmb] at c6; exact absurd rfl c6)
            | (exfalso; rw [← hj2, hjs] at c8; cases c8; done)
            | (trace_state; fail)
          try simp only [↓str_beq_t, ↓str_beq_f, decide_eq_true_eq, decide_eq_false_iff_not, Bool.not_eq_true', Bool.not_eq_false', Int.not_lt, Int.not_le, beq_iff_eq, beq_eq_false_iff_ne, bne_iff_ne, bne_eq_false_iff_eq, ne_eq] at c6
          refine awp_skip ?_
          refine inQ_nil ?_
          refine thenQ_nil ?_
          refine awp_region ?_
          refine awps_stp0 rfl rfl (by decide) (stp_move (.inl rfl) rfl) ?_
          refine awps_stp0 rfl rfl (by decide) (stp_add rfl rfl rfl (by omega)) ?_
          refine awps_stp0 rfl rfl (by decide) (stp_move (.inr rfl) rfl) ?_
          refine awps_nil ?_
          refine thenQ_nil ?_
          refine ⟨?_, ?_, ?_⟩
          · skip
            omega
          · skip
            trivial
          exact sub_re (SubT.cons (lk_eq rfl (by first | rfl | simp)) (SubT.cons (lk_eq rfl (by first | rfl | simp)) (SubT.cons (lk_eq rfl (by first | rfl | simp)) (SubT.nil)))) (SubO.cons (ok_eq rfl (by rfl)) (SubO.nil)) rfl rfl (noL' (noL hL) _)
        try simp only [↓str_beq_t, ↓str_beq_f, decide_eq_true_eq, decide_eq_false_iff_not, Bool.not_eq_true', Bool.not_eq_false', Int.not_lt, Int.not_le, beq_iff_eq, beq_eq_false_iff_ne, bne_iff_ne, bne_eq_false_iff_eq, ne_eq] at c2
        refine awp_exit ?_
        refine thenQ_exit (thenQ_exit (inQ_hit ?_))
        refine thenQ_nil ?_
        refine awp_seq ?_
        refine awp_region ?_
        refine awps_stp0 rfl rfl (by decide) (stp_move (.inr rfl) rfl) ?_
        refine awps_nil ?_
        refine thenQ_nil ?_
        refine awp_block ?_
        refine awp_while (6) (fun _ => True) (fun m => ⟨[(1, .ptr 1 0), (3, iv (k : Int)), (13, iv (m : Int))], [(1, .box (lift false (a2D ⟨l, T, S⟩)))]⟩) (trivial) ?_ (fun m hm hpm => ?_)
        · exact sub_re (SubT.cons (lk_eq rfl (by first | rfl | simp)) (SubT.cons (lk_eq rfl (by first | rfl | simp)) (SubT.cons (lk_eq rfl (by first | rfl | simp)) (SubT.nil)))) (SubO.cons (ok_eq rfl (by rfl)) (SubO.nil)) rfl rfl (noL' (noL hL) _)
        refine awp_seq ?_
        refine awp_seq ?_
        refine awp_region ?_
        refine awps_stp0 rfl rfl (by decide) (stp_move (.inl rfl) rfl) ?_
        first | refine awps_stp0 rfl rfl (by decide) (stp_fieldAddr rfl fo_almagestlaw2_Ask_0 rfl) ?_ | refine awps_stp0 rfl rfl (by decide) (stp_fieldAddr_elp rfl fo_almagestlaw2_Ask_0 rfl) ?_
        first | refine awps_stp0 rfl rfl (by decide) (stp_load rfl tf_S_S_api_Bind rfl rfl rfl rfl rfl) ?_ | refine awps_stp0 rfl rfl (by decide) (stp_load_elp1 rfl tf_S_S_api_Bind rfl) ?_ | refine awps_stp0 rfl rfl (by decide) (stp_load_elpn rfl tf_S_S_api_Bind rfl rfl rfl) ?_
        first | refine awps_stp0 rfl rfl (by decide) (stp_len_dat rfl sl_S_S_api_Bind rfl) ?_ | refine awps_stp0 rfl rfl (by decide) (stp_len_rowd rfl sl_S_S_api_Bind rfl rfl) ?_ | refine awps_stp0 rfl rfl (by decide) (stp_len_nil rfl sl_S_S_api_Bind rfl) ?_ | refine awps_stp0 rfl rfl (by decide) (stp_len_vw rfl sl_S_S_api_Bind rfl) ?_
        refine awps_stp0 rfl rfl (by decide) (stp_binI rfl rfl rfl rfl) ?_
        refine awps_stp0 rfl rfl (by decide) (stp_move (.inl rfl) rfl) ?_
        refine awps_split 116 rfl (fun g116 => ?_) (fun g116 => ?_)
        · try simp only [↓str_beq_t, ↓str_beq_f, decide_eq_true_eq, decide_eq_false_iff_not, Bool.not_eq_true', Bool.not_eq_false', Int.not_lt, Int.not_le, beq_iff_eq, beq_eq_false_iff_ne, bne_iff_ne, bne_eq_false_iff_eq, ne_eq] at g116
          refine awps_g0 rfl rfl rfl (by decide) rfl (by decide) (stp_move (.inl rfl) rfl) ?_
          refine awps_g0 rfl rfl rfl (by decide) rfl (by decide) (stp_binI rfl rfl rfl rfl) ?_
          refine awps_stp0 rfl rfl (by decide) (stp_pick rfl rfl rfl) ?_
          refine awps_nil ?_
          refine thenQ_nil ?_
          refine awp_cond rfl (fun c7 => ?_) (fun c7 => ?_)
          · try simp only [↓str_beq_t, ↓str_beq_f, decide_eq_true_eq, decide_eq_false_iff_not, Bool.not_eq_true', Bool.not_eq_false', Int.not_lt, Int.not_le, beq_iff_eq, beq_eq_false_iff_ne, bne_iff_ne, bne_eq_false_iff_eq, ne_eq] at c7
            obtain ⟨cs, hcs⟩ := get_of_lt (l := l) (k := m) (by omega)
            have hcw := (hwB cs (List.mem_of_getElem? hcs)).2
            obtain ⟨hj1, hj2, hj3⟩ := join_comm hbw hcw
            obtain ⟨_, _, hj4⟩ := join_comm hcw hbw
            have hjl1 := joinL_len bs cs
            have hjl2 := joinL_len cs bs
            have hjs := eqBds_self fun x hx => (hj3 x hx).2
            refine awp_skip ?_
            refine thenQ_nil ?_
            refine awp_seq ?_
            refine awp_block ?_
            refine awp_seq ?_
            refine awp_drawG 15 mixed rfl rfl rfl rfl ?_
            first | refine MGo_c0 rfl (by decide) (.run rfl (stp_fieldAddr rfl fo_almagestlaw2_Ask_0 rfl)) ?_ | refine MGo_c0 rfl (by decide) (.run rfl (stp_fieldAddr_elp rfl fo_almagestlaw2_Ask_0 rfl)) ?_
            first | refine MGo_c0 rfl (by decide) (.run rfl (stp_load rfl tf_S_S_api_Bind rfl rfl rfl rfl rfl)) ?_ | refine MGo_c0 rfl (by decide) (.run rfl (stp_load_elp1 rfl tf_S_S_api_Bind rfl)) ?_ | refine MGo_c0 rfl (by decide) (.run rfl (stp_load_elpn rfl tf_S_S_api_Bind rfl rfl rfl)) ?_
            refine MGo_c0 rfl (by decide) (.run rfl (stp_move (.inl rfl) rfl)) ?_
            first | refine MGo_c0 rfl (by decide) (.run rfl (stp_indexAddr rfl sl_S_S_api_Bind rfl rfl (by omega) (bdlDs_get hbs))) ?_ | refine MGo_c0 rfl (by decide) (.run rfl (stp_indexAddr_rowd rfl sl_S_S_api_Bind rfl rfl rfl (by omega) (bdlDs_get hbs))) ?_ | refine MGo_c0 rfl (by decide) (.run rfl (stp_indexAddr_row rfl sl_S_S_api_Bind rfl rfl rfl (by omega) (bdlDs_get hbs) (by decide))) ?_
            first | refine MGo_c0 rfl (by decide) (.run rfl (stp_load rfl tf_S_api_Bind rfl rfl rfl rfl rfl)) ?_ | refine MGo_c0 rfl (by decide) (.run rfl (stp_load_elp1 rfl tf_S_api_Bind rfl)) ?_ | refine MGo_c0 rfl (by decide) (.run rfl (stp_load_elpn rfl tf_S_api_Bind rfl rfl rfl)) ?_
            first | refine MGo_c0 rfl (by decide) (.run rfl (stp_fieldAddr rfl fo_almagestlaw2_Ask_0 rfl)) ?_ | refine MGo_c0 rfl (by decide) (.run rfl (stp_fieldAddr_elp rfl fo_almagestlaw2_Ask_0 rfl)) ?_
            first | refine MGo_c0 rfl (by decide) (.run rfl (stp_load rfl tf_S_S_api_Bind rfl rfl rfl rfl rfl)) ?_ | refine MGo_c0 rfl (by decide) (.run rfl (stp_load_elp1 rfl tf_S_S_api_Bind rfl)) ?_ | refine MGo_c0 rfl (by decide) (.run rfl (stp_load_elpn rfl tf_S_S_api_Bind rfl rfl rfl)) ?_
            refine MGo_c0 rfl (by decide) (.run rfl (stp_move (.inl rfl) rfl)) ?_
            first | refine MGo_c0 rfl (by decide) (.run rfl (stp_indexAddr rfl sl_S_S_api_Bind rfl rfl (by omega) (bdlDs_get hcs))) ?_ | refine MGo_c0 rfl (by decide) (.run rfl (stp_indexAddr_rowd rfl sl_S_S_api_Bind rfl rfl rfl (by omega) (bdlDs_get hcs))) ?_ | refine MGo_c0 rfl (by decide) (.run rfl (stp_indexAddr_row rfl sl_S_S_api_Bind rfl rfl rfl (by omega) (bdlDs_get hcs) (by decide))) ?_
            first | refine MGo_c0 rfl (by decide) (.run rfl (stp_load rfl tf_S_api_Bind rfl rfl rfl rfl rfl)) ?_ | refine MGo_c0 rfl (by decide) (.run rfl (stp_load_elp1 rfl tf_S_api_Bind rfl)) ?_ | refine MGo_c0 rfl (by decide) (.run rfl (stp_load_elpn rfl tf_S_api_Bind rfl rfl rfl)) ?_
            refine MGo_c0 rfl (by decide) (.run rfl (stp_call (avs := [_, _]) true rfl en_bind_Join rfl rfl (Join_ok bs cs hbw hcw) (fun _ => rfl) rfl)) ?_
            refine MGo_c0 rfl (by decide) (.run rfl (stp_move (.inl rfl) rfl)) ?_
            refine MGo_c0 rfl (by decide) (.run rfl (stp_extract rfl rfl rfl)) ?_
            refine MGo_c0 rfl (by decide) (.run rfl (stp_extract rfl rfl rfl)) ?_
            refine MGo_c0 rfl (by decide) (.run rfl (stp_move (.inr rfl) rfl)) ?_
            refine MGo_nil ⟨rfl, rfl, ?_⟩
            refine awps_stp0 rfl rfl (by decide) (stp_move (.inr rfl) rfl) ?_
            refine awps_nil ?_
            refine thenQ_nil ?_
            refine awp_seq ?_
            refine awp_drawG 15 mixed rfl rfl rfl rfl ?_
            first | refine MGo_c0 rfl (by decide) (.run rfl (stp_fieldAddr rfl fo_almagestlaw2_Ask_0 rfl)) ?_ | refine MGo_c0 rfl (by decide) (.run rfl (stp_fieldAddr_elp rfl fo_almagestlaw2_Ask_0 rfl)) ?_
            first | refine MGo_c0 rfl (by decide) (.run rfl (stp_load rfl tf_S_S_api_Bind rfl rfl rfl rfl rfl)) ?_ | refine MGo_c0 rfl (by decide) (.run rfl (stp_load_elp1 rfl tf_S_S_api_Bind rfl)) ?_ | refine MGo_c0 rfl (by decide) (.run rfl (stp_load_elpn rfl tf_S_S_api_Bind rfl rfl rfl)) ?_
            refine MGo_c0 rfl (by decide) (.run rfl (stp_move (.inl rfl) rfl)) ?_
            first | refine MGo_c0 rfl (by decide) (.run rfl (stp_indexAddr rfl sl_S_S_api_Bind rfl rfl (by omega) (bdlDs_get hcs))) ?_ | refine MGo_c0 rfl (by decide) (.run rfl (stp_indexAddr_rowd rfl sl_S_S_api_Bind rfl rfl rfl (by omega) (bdlDs_get hcs))) ?_ | refine MGo_c0 rfl (by decide) (.run rfl (stp_indexAddr_row rfl sl_S_S_api_Bind rfl rfl rfl (by omega) (bdlDs_get hcs) (by decide))) ?_
            first | refine MGo_c0 rfl (by decide) (.run rfl (stp_load rfl tf_S_api_Bind rfl rfl rfl rfl rfl)) ?_ | refine MGo_c0 rfl (by decide) (.run rfl (stp_load_elp1 rfl tf_S_api_Bind rfl)) ?_ | refine MGo_c0 rfl (by decide) (.run rfl (stp_load_elpn rfl tf_S_api_Bind rfl rfl rfl)) ?_
            first | refine MGo_c0 rfl (by decide) (.run rfl (stp_fieldAddr rfl fo_almagestlaw2_Ask_0 rfl)) ?_ | refine MGo_c0 rfl (by decide) (.run rfl (stp_fieldAddr_elp rfl fo_almagestlaw2_Ask_0 rfl)) ?_
            first | refine MGo_c0 rfl (by decide) (.run rfl (stp_load rfl tf_S_S_api_Bind rfl rfl rfl rfl rfl)) ?_ | refine MGo_c0 rfl (by decide) (.run rfl (stp_load_elp1 rfl tf_S_S_api_Bind rfl)) ?_ | refine MGo_c0 rfl (by decide) (.run rfl (stp_load_elpn rfl tf_S_S_api_Bind rfl rfl rfl)) ?_
            refine MGo_c0 rfl (by decide) (.run rfl (stp_move (.inl rfl) rfl)) ?_
            first | refine MGo_c0 rfl (by decide) (.run rfl (stp_indexAddr rfl sl_S_S_api_Bind rfl rfl (by omega) (bdlDs_get hbs))) ?_ | refine MGo_c0 rfl (by decide) (.run rfl (stp_indexAddr_rowd rfl sl_S_S_api_Bind rfl rfl rfl (by omega) (bdlDs_get hbs))) ?_ | refine MGo_c0 rfl (by decide) (.run rfl (stp_indexAddr_row rfl sl_S_S_api_Bind rfl rfl rfl (by omega) (bdlDs_get hbs) (by decide))) ?_
            first | refine MGo_c0 rfl (by decide) (.run rfl (stp_load rfl tf_S_api_Bind rfl rfl rfl rfl rfl)) ?_ | refine MGo_c0 rfl (by decide) (.run rfl (stp_load_elp1 rfl tf_S_api_Bind rfl)) ?_ | refine MGo_c0 rfl (by decide) (.run rfl (stp_load_elpn rfl tf_S_api_Bind rfl rfl rfl)) ?_
            refine MGo_c0 rfl (by decide) (.run rfl (stp_call (avs := [_, _]) true rfl en_bind_Join rfl rfl (Join_ok cs bs hcw hbw) (fun _ => rfl) rfl)) ?_
            refine MGo_c0 rfl (by decide) (.run rfl (stp_move (.inl rfl) rfl)) ?_
            refine MGo_c0 rfl (by decide) (.run rfl (stp_extract rfl rfl rfl)) ?_
            refine MGo_c0 rfl (by decide) (.run rfl (stp_extract rfl rfl rfl)) ?_
            refine MGo_c0 rfl (by decide) (.run rfl (stp_move (.inr rfl) rfl)) ?_
            refine MGo_nil ⟨rfl, rfl, ?_⟩
            refine awps_stp0 rfl rfl (by decide) (stp_move (.inr rfl) rfl) ?_
            refine awps_nil ?_
            refine thenQ_nil ?_
            refine awp_seq ?_
            refine awp_sub (sub_untag hQ) ?_
            refine awp_region ?_
            refine awps_stp0 rfl rfl (by decide) (stp_move (.inl rfl) rfl) ?_
            refine awps_call (avs := [_]) true rfl rfl rfl (by decide) en_almagestlaw2_num rfl rfl (num2_ok _) rfl rfl ?_
            refine awps_stp0 rfl rfl (by decide) (stp_move (.inl rfl) rfl) ?_
            refine awps_call (avs := [_]) true rfl rfl rfl (by decide) en_almagestlaw2_num rfl rfl (num2_ok _) rfl rfl ?_
            refine awps_stp0 rfl rfl (by decide) (stp_binI rfl rfl rfl rfl) ?_
            refine awps_stp0 rfl rfl (by decide) (stp_move (.inl rfl) rfl) ?_
            refine awps_split 155 rfl (fun g155 => ?_) (fun g155 => ?_)
            · try simp only [↓str_beq_t, ↓str_beq_f, decide_eq_true_eq, decide_eq_false_iff_not, Bool.not_eq_true', Bool.not_eq_false', Int.not_lt, Int.not_le, beq_iff_eq, beq_eq_false_iff_ne, bne_iff_ne, bne_eq_false_iff_eq, ne_eq] at g155
              refine awps_gs rfl rfl rfl rfl (by decide) rfl (by decide) ?_
              refine awps_gs rfl rfl rfl rfl (by decide) rfl (by decide) ?_
              refine awps_gs rfl rfl rfl rfl (by decide) rfl (by decide) ?_
              refine awps_gs rfl rfl rfl rfl (by decide) rfl (by decide) ?_
              refine awps_stp0 rfl rfl (by decide) (stp_pick rfl rfl rfl) ?_
              refine awps_nil ?_
              refine thenQ_nil ?_
              refine awp_condT rfl ?_
              refine awp_seq ?_
              refine awp_region ?_
              refine awps_stp0 rfl rfl (by decide) (stp_move (.inr rfl) rfl) ?_
              refine awps_nil ?_
              refine thenQ_nil ?_
              refine awp_ret ?_
              refine inQ_ret (thenQ_ret (thenQ_ret (inQ_ret (inQ_ret (thenQ_ret (thenQ_ret (inQ_ret (thenQ_ret (?_)))))))))
              -- leaf 0Fg25T1Tg36T2Fg116T7Tg155T
              refine ret0 (noL hL) (.inl rfl) (resAs_tmp rfl (resAs_nil)) ?_ ?_
              · rfl
              first
              | exact ⟨rfl, rfl⟩
              | exact absurd hz1 (by assumption)
              | exact absurd hge (by assumption)
              | exact absurd hj1 (by assumption)
              | (exfalso; rw [hz2, hes] at c4; cases c4; done)
              | (exfalso; rw [hgt, hes] at g105; cases g105; done)
              | (exfalso; rw [if_pos hmb] at c6; exact absurd rfl c6)
              | (exfalso; rw [← hj2, hjs] at c8; cases c8; done)
              | (trace_state; fail)
            try simp only [↓str_beq_t, ↓str_beq_f, decide_eq_true_eq, decide_eq_false_iff_not, Bool.not_eq_true', Bool.not_eq_false', Int.not_lt, Int.not_le, beq_iff_eq, beq_eq_false_iff_ne, bne_iff_ne, bne_eq_false_iff_eq, ne_eq] at g155
            refine awps_g0 rfl rfl rfl (by decide) rfl (by decide) (stp_move (.inl rfl) rfl) ?_
            refine awps_g0 rfl rfl rfl (by decide) rfl (by decide) (stp_move (.inl rfl) rfl) ?_
            refine awps_g0 rfl rfl rfl (by decide) rfl (by decide) (stp_call (avs := [_, _]) true rfl en_almagestref0_EqBinds rfl rfl (EqBinds_ok (joinL bs cs) (joinL cs bs) (fun x hx => (hj3 x hx).2) (fun x hx => (hj3 x hx).1) (fun x hx => (hj4 x hx).1) (by omega) (by omega)) (fun _ => rfl) rfl) ?_
            refine awps_g0 rfl rfl rfl (by decide) rfl (by decide) (stp_not rfl rfl) ?_
            refine awps_stp0 rfl rfl (by decide) (stp_pick rfl rfl rfl) ?_
            refine awps_nil ?_
            refine thenQ_nil ?_
            refine awp_cond rfl (fun c8 => ?_) (fun c8 => ?_)
            · try simp only [↓str_beq_t, ↓str_beq_f, decide_eq_true_eq, decide_eq_false_iff_not, Bool.not_eq_true', Bool.not_eq_false', Int.not_lt, Int.not_le, beq_iff_eq, beq_eq_false_iff_ne, bne_iff_ne, bne_eq_false_iff_eq, ne_eq] at c8
              refine awp_seq ?_
              refine awp_region ?_
              refine awps_stp0 rfl rfl (by decide) (stp_move (.inr rfl) rfl) ?_
              refine awps_nil ?_
              refine thenQ_nil ?_
              refine awp_ret ?_
              refine inQ_ret (thenQ_ret (thenQ_ret (inQ_ret (inQ_ret (thenQ_ret (thenQ_ret (inQ_ret (thenQ_ret (?_)))))))))
              -- leaf 0Fg25T1Tg36T2Fg116T7Tg155F8T
              refine ret0 (noL hL) (.inl rfl) (resAs_tmp rfl (resAs_nil)) ?_ ?_
              · rfl
              first
              | exact ⟨rfl, rfl⟩
              | exact absurd hz1 (by assumption)
              | exact absurd hge (by assumption)
              | exact absurd hj1 (by assumption)
              | (exfalso; rw [hz2, hes] at c4; cases c4; done)
              | (exfalso; rw [hgt, hes] at g105; cases g105; done)
              | (exfalso; rw [if_pos hmb] at c6; exact absurd rfl c6)
              | (exfalso; rw [← hj2, hjs] at c8; cases c8; done)
              | (trace_state; fail)
            try simp only [↓str_beq_t, ↓str_beq_f, decide_eq_true_eq, decide_eq_false_iff_not, Bool.not_eq_true', Bool.not_eq_false', Int.not_lt, Int.not_le, beq_iff_eq, beq_eq_false_iff_ne, bne_iff_ne, bne_eq_false_iff_eq, ne_eq] at c8
            refine awp_skip ?_
            refine inQ_nil ?_
            refine thenQ_nil ?_
            refine awp_region ?_
            refine awps_stp0 rfl rfl (by decide) (stp_move (.inl rfl) rfl) ?_
            refine awps_stp0 rfl rfl (by decide) (stp_add rfl rfl rfl (by omega)) ?_
            refine awps_stp0 rfl rfl (by decide) (stp_move (.inr rfl) rfl) ?_
            refine awps_nil ?_
            refine thenQ_nil ?_
            refine ⟨?_, ?_, ?_⟩
            · skip
              omega
            · skip
              trivial
            exact sub_re (SubT.cons (lk_eq rfl (by first | rfl | simp)) (SubT.cons (lk_eq rfl (by first | rfl | simp)) (SubT.cons (lk_eq rfl (by first | rfl | simp)) (SubT.nil)))) (SubO.cons (ok_eq rfl (by rfl)) (SubO.nil)) rfl rfl (noL' (noL hL) _)
          try simp only [↓str_beq_t, ↓str_beq_f, decide_eq_true_eq, decide_eq_false_iff_not, Bool.not_eq_true', Bool.not_eq_false', Int.not_lt, Int.not_le, beq_iff_eq, beq_eq_false_iff_ne, bne_iff_ne, bne_eq_false_iff_eq, ne_eq] at c7
          refine awp_exit ?_
          refine thenQ_exit (thenQ_exit (inQ_hit ?_))
          refine inQ_nil ?_
          refine thenQ_nil ?_
          refine awp_region ?_
          refine awps_stp0 rfl rfl (by decide) (stp_move (.inl rfl) rfl) ?_
          refine awps_stp0 rfl rfl (by decide) (stp_add rfl rfl rfl (by omega)) ?_
          refine awps_stp0 rfl rfl (by decide) (stp_move (.inr rfl) rfl) ?_
          refine awps_nil ?_
          refine thenQ_nil ?_
          refine ⟨?_, ?_, ?_⟩
          · skip
            omega
          · skip
            trivial
          exact sub_re (SubT.cons (lk_eq rfl (by first | rfl | simp)) (SubT.cons (lk_eq rfl (by first | rfl | simp)) (SubT.nil))) (SubO.cons (ok_eq rfl (by rfl)) (SubO.nil)) rfl rfl (noL' (noL hL) _)
        try simp only [↓str_beq_t, ↓str_beq_f, decide_eq_true_eq, decide_eq_false_iff_not, Bool.not_eq_true', Bool.not_eq_false', Int.not_lt, Int.not_le, beq_iff_eq, beq_eq_false_iff_ne, bne_iff_ne, bne_eq_false_iff_eq, ne_eq] at g116
        refine awps_gs rfl rfl rfl rfl (by decide) rfl (by decide) ?_
        refine awps_gs rfl rfl rfl rfl (by decide) rfl (by decide) ?_
        refine awps_stp0 rfl rfl (by decide) (stp_pick rfl rfl rfl) ?_
        refine awps_nil ?_
        refine thenQ_nil ?_
        refine awp_condF rfl ?_
        refine awp_exit ?_
        refine thenQ_exit (thenQ_exit (inQ_hit ?_))
        refine inQ_nil ?_
        refine thenQ_nil ?_
        refine awp_region ?_
        refine awps_stp0 rfl rfl (by decide) (stp_move (.inl rfl) rfl) ?_
        refine awps_stp0 rfl rfl (by decide) (stp_add rfl rfl rfl (by omega)) ?_
        refine awps_stp0 rfl rfl (by decide) (stp_move (.inr rfl) rfl) ?_
        refine awps_nil ?_
        refine thenQ_nil ?_
        refine ⟨?_, ?_, ?_⟩
        · skip
          omega
        · skip
          trivial
        exact sub_re (SubT.cons (lk_eq rfl (by first | rfl | simp)) (SubT.cons (lk_eq rfl (by first | rfl | simp)) (SubT.nil))) (SubO.cons (ok_eq rfl (by rfl)) (SubO.nil)) rfl rfl (noL' (noL hL) _)
      try simp only [↓str_beq_t, ↓str_beq_f, decide_eq_true_eq, decide_eq_false_iff_not, Bool.not_eq_true', Bool.not_eq_false', Int.not_lt, Int.not_le, beq_iff_eq, beq_eq_false_iff_ne, bne_iff_ne, bne_eq_false_iff_eq, ne_eq] at g36
      refine awps_gs rfl rfl rfl rfl (by decide) rfl (by decide) ?_
      refine awps_gs rfl rfl rfl rfl (by decide) rfl (by decide) ?_
      refine awps_stp0 rfl rfl (by decide) (stp_pick rfl rfl rfl) ?_
      refine awps_nil ?_
      refine thenQ_nil ?_
      refine awp_condF rfl ?_
      refine awp_exit ?_
      refine thenQ_exit (thenQ_exit (inQ_hit ?_))
      refine thenQ_nil ?_
      refine awp_seq ?_
      refine awp_region ?_
      refine awps_stp0 rfl rfl (by decide) (stp_move (.inr rfl) rfl) ?_
      refine awps_nil ?_
      refine thenQ_nil ?_
      refine awp_block ?_
      refine awp_while (6) (fun _ => True) (fun m => ⟨[(1, .ptr 1 0), (3, iv (k : Int)), (13, iv (m : Int))], [(1, .box (lift false (a2D ⟨l, T, S⟩)))]⟩) (trivial) ?_ (fun m hm hpm => ?_)
      · exact sub_re (SubT.cons (lk_eq rfl (by first | rfl | simp)) (SubT.cons (lk_eq rfl (by first | rfl | simp)) (SubT.cons (lk_eq rfl (by first | rfl | simp)) (SubT.nil)))) (SubO.cons (ok_eq rfl (by rfl)) (SubO.nil)) rfl rfl (noL' (noL hL) _)
      refine awp_seq ?_
      refine awp_seq ?_
      refine awp_region ?_
      refine awps_stp0 rfl rfl (by decide) (stp_move (.inl rfl) rfl) ?_
      first | refine awps_stp0 rfl rfl (by decide) (stp_fieldAddr rfl fo_almagestlaw2_Ask_0 rfl) ?_ | refine awps_stp0 rfl rfl (by decide) (stp_fieldAddr_elp rfl fo_almagestlaw2_Ask_0 rfl) ?_
      first | refine awps_stp0 rfl rfl (by decide) (stp_load rfl tf_S_S_api_Bind rfl rfl rfl rfl rfl) ?_ | refine awps_stp0 rfl rfl (by decide) (stp_load_elp1 rfl tf_S_S_api_Bind rfl) ?_ | refine awps_stp0 rfl rfl (by decide) (stp_load_elpn rfl tf_S_S_api_Bind rfl rfl rfl) ?_
      first | refine awps_stp0 rfl rfl (by decide) (stp_len_dat rfl sl_S_S_api_Bind rfl) ?_ | refine awps_stp0 rfl rfl (by decide) (stp_len_rowd rfl sl_S_S_api_Bind rfl rfl) ?_ | refine awps_stp0 rfl rfl (by decide) (stp_len_nil rfl sl_S_S_api_Bind rfl) ?_ | refine awps_stp0 rfl rfl (by decide) (stp_len_vw rfl sl_S_S_api_Bind rfl) ?_
      refine awps_stp0 rfl rfl (by decide) (stp_binI rfl rfl rfl rfl) ?_
      refine awps_stp0 rfl rfl (by decide) (stp_move (.inl rfl) rfl) ?_
      refine awps_split 116 rfl (fun g116 => ?_) (fun g116 => ?_)
      · try simp only [↓str_beq_t, ↓str_beq_f, decide_eq_true_eq, decide_eq_false_iff_not, Bool.not_eq_true', Bool.not_eq_false', Int.not_lt, Int.not_le, beq_iff_eq, beq_eq_false_iff_ne, bne_iff_ne, bne_eq_false_iff_eq, ne_eq] at g116
        refine awps_g0 rfl rfl rfl (by decide) rfl (by decide) (stp_move (.inl rfl) rfl) ?_
        refine awps_g0 rfl rfl rfl (by decide) rfl (by decide) (stp_binI rfl rfl rfl rfl) ?_
        refine awps_stp0 rfl rfl (by decide) (stp_pick rfl rfl rfl) ?_
        refine awps_nil ?_
        refine thenQ_nil ?_
        refine awp_cond rfl (fun c7 => ?_) (fun c7 => ?_)
        · try simp only [↓str_beq_t, ↓str_beq_f, decide_eq_true_eq, decide_eq_false_iff_not, Bool.not_eq_true', Bool.not_eq_false', Int.not_lt, Int.not_le, beq_iff_eq, beq_eq_false_iff_ne, bne_iff_ne, bne_eq_false_iff_eq, ne_eq] at c7
          obtain ⟨cs, hcs⟩ := get_of_lt (l := l) (k := m) (by omega)
          have hcw := (hwB cs (List.mem_of_getElem? hcs)).2
          obtain ⟨hj1, hj2, hj3⟩ := join_comm hbw hcw
          obtain ⟨_, _, hj4⟩ := join_comm hcw hbw
          have hjl1 := joinL_len bs cs
          have hjl2 := joinL_len cs bs
          have hjs := eqBds_self fun x hx => (hj3 x hx).2
          refine awp_skip ?_
          refine thenQ_nil ?_
          refine awp_seq ?_
          refine awp_block ?_
          refine awp_seq ?_
          refine awp_drawG 15 mixed rfl rfl rfl rfl ?_
          first | refine MGo_c0 rfl (by decide) (.run rfl (stp_fieldAddr rfl fo_almagestlaw2_Ask_0 rfl)) ?_ | refine MGo_c0 rfl (by decide) (.run rfl (stp_fieldAddr_elp rfl fo_almagestlaw2_Ask_0 rfl)) ?_
          first | refine MGo_c0 rfl (by decide) (.run rfl (stp_load rfl tf_S_S_api_Bind rfl rfl rfl rfl rfl)) ?_ | refine MGo_c0 rfl (by decide) (.run rfl (stp_load_elp1 rfl tf_S_S_api_Bind rfl)) ?_ | refine MGo_c0 rfl (by decide) (.run rfl (stp_load_elpn rfl tf_S_S_api_Bind rfl rfl rfl)) ?_
          refine MGo_c0 rfl (by decide) (.run rfl (stp_move (.inl rfl) rfl)) ?_
          first | refine MGo_c0 rfl (by decide) (.run rfl (stp_indexAddr rfl sl_S_S_api_Bind rfl rfl (by omega) (bdlDs_get hbs))) ?_ | refine MGo_c0 rfl (by decide) (.run rfl (stp_indexAddr_rowd rfl sl_S_S_api_Bind rfl rfl rfl (by omega) (bdlDs_get hbs))) ?_ | refine MGo_c0 rfl (by decide) (.run rfl (stp_indexAddr_row rfl sl_S_S_api_Bind rfl rfl rfl (by omega) (bdlDs_get hbs) (by decide))) ?_
          first | refine MGo_c0 rfl (by decide) (.run rfl (stp_load rfl tf_S_api_Bind rfl rfl rfl rfl rfl)) ?_ | refine MGo_c0 rfl (by decide) (.run rfl (stp_load_elp1 rfl tf_S_api_Bind rfl)) ?_ | refine MGo_c0 rfl (by decide) (.run rfl (stp_load_elpn rfl tf_S_api_Bind rfl rfl rfl)) ?_
          first | refine MGo_c0 rfl (by decide) (.run rfl (stp_fieldAddr rfl fo_almagestlaw2_Ask_0 rfl)) ?_ | refine MGo_c0 rfl (by decide) (.run rfl (stp_fieldAddr_elp rfl fo_almagestlaw2_Ask_0 rfl)) ?_
          first | refine MGo_c0 rfl (by decide) (.run rfl (stp_load rfl tf_S_S_api_Bind rfl rfl rfl rfl rfl)) ?_ | refine MGo_c0 rfl (by decide) (.run rfl (stp_load_elp1 rfl tf_S_S_api_Bind rfl)) ?_ | refine MGo_c0 rfl (by decide) (.run rfl (stp_load_elpn rfl tf_S_S_api_Bind rfl rfl rfl)) ?_
          refine MGo_c0 rfl (by decide) (.run rfl (stp_move (.inl rfl) rfl)) ?_
          first | refine MGo_c0 rfl (by decide) (.run rfl (stp_indexAddr rfl sl_S_S_api_Bind rfl rfl (by omega) (bdlDs_get hcs))) ?_ | refine MGo_c0 rfl (by decide) (.run rfl (stp_indexAddr_rowd rfl sl_S_S_api_Bind rfl rfl rfl (by omega) (bdlDs_get hcs))) ?_ | refine MGo_c0 rfl (by decide) (.run rfl (stp_indexAddr_row rfl sl_S_S_api_Bind rfl rfl rfl (by omega) (bdlDs_get hcs) (by decide))) ?_
          first | refine MGo_c0 rfl (by decide) (.run rfl (stp_load rfl tf_S_api_Bind rfl rfl rfl rfl rfl)) ?_ | refine MGo_c0 rfl (by decide) (.run rfl (stp_load_elp1 rfl tf_S_api_Bind rfl)) ?_ | refine MGo_c0 rfl (by decide) (.run rfl (stp_load_elpn rfl tf_S_api_Bind rfl rfl rfl)) ?_
          refine MGo_c0 rfl (by decide) (.run rfl (stp_call (avs := [_, _]) true rfl en_bind_Join rfl rfl (Join_ok bs cs hbw hcw) (fun _ => rfl) rfl)) ?_
          refine MGo_c0 rfl (by decide) (.run rfl (stp_move (.inl rfl) rfl)) ?_
          refine MGo_c0 rfl (by decide) (.run rfl (stp_extract rfl rfl rfl)) ?_
          refine MGo_c0 rfl (by decide) (.run rfl (stp_extract rfl rfl rfl)) ?_
          refine MGo_c0 rfl (by decide) (.run rfl (stp_move (.inr rfl) rfl)) ?_
          refine MGo_nil ⟨rfl, rfl, ?_⟩
          refine awps_stp0 rfl rfl (by decide) (stp_move (.inr rfl) rfl) ?_
          refine awps_nil ?_
          refine thenQ_nil ?_
          refine awp_seq ?_
          refine awp_drawG 15 mixed rfl rfl rfl rfl ?_
          first | refine MGo_c0 rfl (by decide) (.run rfl (stp_fieldAddr rfl fo_almagestlaw2_Ask_0 rfl)) ?_ | refine MGo_c0 rfl (by decide) (.run rfl (stp_fieldAddr_elp rfl fo_almagestlaw2_Ask_0 rfl)) ?_
          first | refine MGo_c0 rfl (by decide) (.run rfl (stp_load rfl tf_S_S_api_Bind rfl rfl rfl rfl rfl)) ?_ | refine MGo_c0 rfl (by decide) (.run rfl (stp_load_elp1 rfl tf_S_S_api_Bind rfl)) ?_ | refine MGo_c0 rfl (by decide) (.run rfl (stp_load_elpn rfl tf_S_S_api_Bind rfl rfl rfl)) ?_
          refine MGo_c0 rfl (by decide) (.run rfl (stp_move (.inl rfl) rfl)) ?_
          first | refine MGo_c0 rfl (by decide) (.run rfl (stp_indexAddr rfl sl_S_S_api_Bind rfl rfl (by omega) (bdlDs_get hcs))) ?_ | refine MGo_c0 rfl (by decide) (.run rfl (stp_indexAddr_rowd rfl sl_S_S_api_Bind rfl rfl rfl (by omega) (bdlDs_get hcs))) ?_ | refine MGo_c0 rfl (by decide) (.run rfl (stp_indexAddr_row rfl sl_S_S_api_Bind rfl rfl rfl (by omega) (bdlDs_get hcs) (by decide))) ?_
          first | refine MGo_c0 rfl (by decide) (.run rfl (stp_load rfl tf_S_api_Bind rfl rfl rfl rfl rfl)) ?_ | refine MGo_c0 rfl (by decide) (.run rfl (stp_load_elp1 rfl tf_S_api_Bind rfl)) ?_ | refine MGo_c0 rfl (by decide) (.run rfl (stp_load_elpn rfl tf_S_api_Bind rfl rfl rfl)) ?_
          first | refine MGo_c0 rfl (by decide) (.run rfl (stp_fieldAddr rfl fo_almagestlaw2_Ask_0 rfl)) ?_ | refine MGo_c0 rfl (by decide) (.run rfl (stp_fieldAddr_elp rfl fo_almagestlaw2_Ask_0 rfl)) ?_
          first | refine MGo_c0 rfl (by decide) (.run rfl (stp_load rfl tf_S_S_api_Bind rfl rfl rfl rfl rfl)) ?_ | refine MGo_c0 rfl (by decide) (.run rfl (stp_load_elp1 rfl tf_S_S_api_Bind rfl)) ?_ | refine MGo_c0 rfl (by decide) (.run rfl (stp_load_elpn rfl tf_S_S_api_Bind rfl rfl rfl)) ?_
          refine MGo_c0 rfl (by decide) (.run rfl (stp_move (.inl rfl) rfl)) ?_
          first | refine MGo_c0 rfl (by decide) (.run rfl (stp_indexAddr rfl sl_S_S_api_Bind rfl rfl (by omega) (bdlDs_get hbs))) ?_ | refine MGo_c0 rfl (by decide) (.run rfl (stp_indexAddr_rowd rfl sl_S_S_api_Bind rfl rfl rfl (by omega) (bdlDs_get hbs))) ?_ | refine MGo_c0 rfl (by decide) (.run rfl (stp_indexAddr_row rfl sl_S_S_api_Bind rfl rfl rfl (by omega) (bdlDs_get hbs) (by decide))) ?_
          first | refine MGo_c0 rfl (by decide) (.run rfl (stp_load rfl tf_S_api_Bind rfl rfl rfl rfl rfl)) ?_ | refine MGo_c0 rfl (by decide) (.run rfl (stp_load_elp1 rfl tf_S_api_Bind rfl)) ?_ | refine MGo_c0 rfl (by decide) (.run rfl (stp_load_elpn rfl tf_S_api_Bind rfl rfl rfl)) ?_
          refine MGo_c0 rfl (by decide) (.run rfl (stp_call (avs := [_, _]) true rfl en_bind_Join rfl rfl (Join_ok cs bs hcw hbw) (fun _ => rfl) rfl)) ?_
          refine MGo_c0 rfl (by decide) (.run rfl (stp_move (.inl rfl) rfl)) ?_
          refine MGo_c0 rfl (by decide) (.run rfl (stp_extract rfl rfl rfl)) ?_
          refine MGo_c0 rfl (by decide) (.run rfl (stp_extract rfl rfl rfl)) ?_
          refine MGo_c0 rfl (by decide) (.run rfl (stp_move (.inr rfl) rfl)) ?_
          refine MGo_nil ⟨rfl, rfl, ?_⟩
          refine awps_stp0 rfl rfl (by decide) (stp_move (.inr rfl) rfl) ?_
          refine awps_nil ?_
          refine thenQ_nil ?_
          refine awp_seq ?_
          refine awp_sub (sub_untag hQ) ?_
          refine awp_region ?_
          refine awps_stp0 rfl rfl (by decide) (stp_move (.inl rfl) rfl) ?_
          refine awps_call (avs := [_]) true rfl rfl rfl (by decide) en_almagestlaw2_num rfl rfl (num2_ok _) rfl rfl ?_
          refine awps_stp0 rfl rfl (by decide) (stp_move (.inl rfl) rfl) ?_
          refine awps_call (avs := [_]) true rfl rfl rfl (by decide) en_almagestlaw2_num rfl rfl (num2_ok _) rfl rfl ?_
          refine awps_stp0 rfl rfl (by decide) (stp_binI rfl rfl rfl rfl) ?_
          refine awps_stp0 rfl rfl (by decide) (stp_move (.inl rfl) rfl) ?_
          refine awps_split 155 rfl (fun g155 => ?_) (fun g155 => ?_)
          · try simp only [↓str_beq_t, ↓str_beq_f, decide_eq_true_eq, decide_eq_false_iff_not, Bool.not_eq_true', Bool.not_eq_false', Int.not_lt, Int.not_le, beq_iff_eq, beq_eq_false_iff_ne, bne_iff_ne, bne_eq_false_iff_eq, ne_eq] at g155
            refine awps_gs rfl rfl rfl rfl (by decide) rfl (by decide) ?_
            refine awps_gs rfl rfl rfl rfl (by decide) rfl (by decide) ?_
            refine awps_gs rfl rfl rfl rfl (by decide) rfl (by decide) ?_
            refine awps_gs rfl rfl rfl rfl (by decide) rfl (by decide) ?_
            refine awps_stp0 rfl rfl (by decide) (stp_pick rfl rfl rfl) ?_
            refine awps_nil ?_
            refine thenQ_nil ?_
            refine awp_condT rfl ?_
            refine awp_seq ?_
            refine awp_region ?_
            refine awps_stp0 rfl rfl (by decide) (stp_move (.inr rfl) rfl) ?_
            refine awps_nil ?_
            refine thenQ_nil ?_
            refine awp_ret ?_
            refine inQ_ret (thenQ_ret (thenQ_ret (inQ_ret (inQ_ret (thenQ_ret (thenQ_ret (inQ_ret (thenQ_ret (?_)))))))))
            -- leaf 0Fg25T1Tg36Fg116T7Tg155T
            refine ret0 (noL hL) (.inl rfl) (resAs_tmp rfl (resAs_nil)) ?_ ?_
            · rfl
            first
            | exact ⟨rfl, rfl⟩
            | exact absurd hz1 (by assumption)
            | exact absurd hge (by assumption)
            | exact absurd hj1 (by assumption)
            | (exfalso; rw [hz2, hes] at c4; cases c4; done)
            | (exfalso; rw [hgt, hes] at g105; cases g105; done)
            | (exfalso; rw [if_pos hmb] at c6; exact absurd rfl c6)
            | (exfalso; rw [← hj2, hjs] at c8; cases c8; done)
            | (trace_state; fail)
          try simp only [↓str_beq_t, ↓str_beq_f, decide_eq_true_eq, decide_eq_false_iff_not, Bool.not_eq_true', Bool.not_eq_false', Int.not_lt, Int.not_le, beq_iff_eq, beq_eq_false_iff_ne, bne_iff_ne, bne_eq_false_iff_eq, ne_eq] at g155
          refine awps_g0 rfl rfl rfl (by decide) rfl (by decide) (stp_move (.inl rfl) rfl) ?_
          refine awps_g0 rfl rfl rfl (by decide) rfl (by decide) (stp_move (.inl rfl) rfl) ?_
          refine awps_g0 rfl rfl rfl (by decide) rfl (by decide) (stp_call (avs := [_, _]) true rfl en_almagestref0_EqBinds rfl rfl (EqBinds_ok (joinL bs cs) (joinL cs bs) (fun x hx => (hj3 x hx).2) (fun x hx => (hj3 x hx).1) (fun x hx => (hj4 x hx).1) (by omega) (by omega)) (fun _ => rfl) rfl) ?_
          refine awps_g0 rfl rfl rfl (by decide) rfl (by decide) (stp_not rfl rfl) ?_
          refine awps_stp0 rfl rfl (by decide) (stp_pick rfl rfl rfl) ?_
          refine awps_nil ?_
          refine thenQ_nil ?_
          refine awp_cond rfl (fun c8 => ?_) (fun c8 => ?_)
          · try simp only [↓str_beq_t, ↓str_beq_f, decide_eq_true_eq, decide_eq_false_iff_not, Bool.not_eq_true', Bool.not_eq_false', Int.not_lt, Int.not_le, beq_iff_eq, beq_eq_false_iff_ne, bne_iff_ne, bne_eq_false_iff_eq, ne_eq] at c8
            refine awp_seq ?_
            refine awp_region ?_
            refine awps_stp0 rfl rfl (by decide) (stp_move (.inr rfl) rfl) ?_
            refine awps_nil ?_
            refine thenQ_nil ?_
            refine awp_ret ?_
            refine inQ_ret (thenQ_ret (thenQ_ret (inQ_ret (inQ_ret (thenQ_ret (thenQ_ret (inQ_ret (thenQ_ret (?_)))))))))
            -- leaf 0Fg25T1Tg36Fg116T7Tg155F8T
            refine ret0 (noL hL) (.inl rfl) (resAs_tmp rfl (resAs_nil)) ?_ ?_
            · rfl
            first
            | exact ⟨rfl, rfl⟩
            | exact absurd hz1 (by assumption)
            | exact absurd hge (by assumption)
            | exact absurd hj1 (by assumption)
            | (exfalso; rw [hz2, hes] at c4; cases c4; done)
            | (exfalso; rw [hgt, hes] at g105; cases g105; done)
            | (exfalso; rw [if_pos hmb] at c6; exact absurd rfl c6)
            | (exfalso; rw [← hj2, hjs] at c8; cases c8; done)
            | (trace_state; fail)
          try simp only [↓str_beq_t, ↓str_beq_f, decide_eq_true_eq, decide_eq_false_iff_not, Bool.not_eq_true', Bool.not_eq_false', Int.not_lt, Int.not_le, beq_iff_eq, beq_eq_false_iff_ne, bne_iff_ne, bne_eq_false_iff_eq, ne_eq] at c8
          refine awp_skip ?_
          refine inQ_nil ?_
          refine thenQ_nil ?_
          refine awp_region ?_
          refine awps_stp0 rfl rfl (by decide) (stp_move (.inl rfl) rfl) ?_
          refine awps_stp0 rfl rfl (by decide) (stp_add rfl rfl rfl (by omega)) ?_
          refine awps_stp0 rfl rfl (by decide) (stp_move (.inr rfl) rfl) ?_
          refine awps_nil ?_
          refine thenQ_nil ?_
          refine ⟨?_, ?_, ?_⟩
          · skip
            omega
          · skip
            trivial
          exact sub_re (SubT.cons (lk_eq rfl (by first | rfl | simp)) (SubT.cons (lk_eq rfl (by first | rfl | simp)) (SubT.cons (lk_eq rfl (by first | rfl | simp)) (SubT.nil)))) (SubO.cons (ok_eq rfl (by rfl)) (SubO.nil)) rfl rfl (noL' (noL hL) _)
        try simp only [↓str_beq_t, ↓str_beq_f, decide_eq_true_eq, decide_eq_false_iff_not, Bool.not_eq_true', Bool.not_eq_false', Int.not_lt, Int.not_le, beq_iff_eq, beq_eq_false_iff_ne, bne_iff_ne, bne_eq_false_iff_eq, ne_eq] at c7
        refine awp_exit ?_
        refine thenQ_exit (thenQ_exit (inQ_hit ?_))
        refine inQ_nil ?_
        refine thenQ_nil ?_
        refine awp_region ?_
        refine awps_stp0 rfl rfl (by decide) (stp_move (.inl rfl) rfl) ?_
        refine awps_stp0 rfl rfl (by decide) (stp_add rfl rfl rfl (by omega)) ?_
        refine awps_stp0 rfl rfl (by decide) (stp_move (.inr rfl) rfl) ?_
        refine awps_nil ?_
        refine thenQ_nil ?_
        refine ⟨?_, ?_, ?_⟩
        · skip
          omega
        · skip
          trivial
        exact sub_re (SubT.cons (lk_eq rfl (by first | rfl | simp)) (SubT.cons (lk_eq rfl (by first | rfl | simp)) (SubT.nil))) (SubO.cons (ok_eq rfl (by rfl)) (SubO.nil)) rfl rfl (noL' (noL hL) _)
      try simp only [↓str_beq_t, ↓str_beq_f, decide_eq_true_eq, decide_eq_false_iff_not, Bool.not_eq_true', Bool.not_eq_false', Int.not_lt, Int.not_le, beq_iff_eq, beq_eq_false_iff_ne, bne_iff_ne, bne_eq_false_iff_eq, ne_eq] at g116
      refine awps_gs rfl rfl rfl rfl (by decide) rfl (by decide) ?_
      refine awps_gs rfl rfl rfl rfl (by decide) rfl (by decide) ?_
      refine awps_stp0 rfl rfl (by decide) (stp_pick rfl rfl rfl) ?_
      refine awps_nil ?_
      refine thenQ_nil ?_
      refine awp_condF rfl ?_
      refine awp_exit ?_
      refine thenQ_exit (thenQ_exit (inQ_hit ?_))
      refine inQ_nil ?_
      refine thenQ_nil ?_
      refine awp_region ?_
      refine awps_stp0 rfl rfl (by decide) (stp_move (.inl rfl) rfl) ?_
      refine awps_stp0 rfl rfl (by decide) (stp_add rfl rfl rfl (by omega)) ?_
      refine awps_stp0 rfl rfl (by decide) (stp_move (.inr rfl) rfl) ?_
      refine awps_nil ?_
      refine thenQ_nil ?_
      refine ⟨?_, ?_, ?_⟩
      · skip
        omega
      · skip
        trivial
      exact sub_re (SubT.cons (lk_eq rfl (by first | rfl | simp)) (SubT.cons (lk_eq rfl (by first | rfl | simp)) (SubT.nil))) (SubO.cons (ok_eq rfl (by rfl)) (SubO.nil)) rfl rfl (noL' (noL hL) _)
    try simp only [↓str_beq_t, ↓str_beq_f, decide_eq_true_eq, decide_eq_false_iff_not, Bool.not_eq_true', Bool.not_eq_false', Int.not_lt, Int.not_le, beq_iff_eq, beq_eq_false_iff_ne, bne_iff_ne, bne_eq_false_iff_eq, ne_eq] at c1
    refine awp_exit ?_
    refine thenQ_exit (thenQ_exit (inQ_hit ?_))
    refine thenQ_nil ?_
    refine awp_seq ?_
    refine awp_region ?_
    refine awps_call (avs := []) true rfl rfl rfl (by decide) en_almagestlaw2_wakes rfl rfl (wakes2_ok) rfl rfl ?_
    refine awps_stp0 rfl rfl (by decide) (stp_move (.inr rfl) rfl) ?_
    refine awps_nil ?_
    refine thenQ_nil ?_
    refine awp_ret ?_
    -- leaf 0Fg25T1F
    refine ret0 (noL hL) (.inl rfl) (resAs_tmp rfl (resAs_nil)) ?_ ?_
    · rfl
    first
    | exact ⟨rfl, rfl⟩
    | exact absurd hz1 (by assumption)
    | exact absurd hge (by assumption)
    | exact absurd hj1 (by assumption)
    | (exfalso; rw [hz2, hes] at c4; cases c4; done)
    | (exfalso; rw [hgt, hes] at g105; cases g105; done)
    | (exfalso; rw [if_pos hmb] at c6; exact absurd rfl c6)
    | (exfalso; rw [← hj2, hjs] at c8; cases c8; done)
    | (trace_state; fail)
  try simp only [↓str_beq_t, ↓str_beq_f, decide_eq_true_eq, decide_eq_false_iff_not, Bool.not_eq_true', Bool.not_eq_false', Int.not_lt, Int.not_le, beq_iff_eq, beq_eq_false_iff_ne, bne_iff_ne, bne_eq_false_iff_eq, ne_eq] at g25
  refine awps_gs rfl rfl rfl rfl (by decide) rfl (by decide) ?_
  refine awps_gs rfl rfl rfl rfl (by decide) rfl (by decide) ?_
  refine awps_stp0 rfl rfl (by decide) (stp_pick rfl rfl rfl) ?_
  refine awps_nil ?_
  refine thenQ_nil ?_
  refine awp_condF rfl ?_
  refine awp_exit ?_
  refine thenQ_exit (thenQ_exit (inQ_hit ?_))
  refine thenQ_nil ?_
  refine awp_seq ?_
  refine awp_region ?_
  refine awps_call (avs := []) true rfl rfl rfl (by decide) en_almagestlaw2_wakes rfl rfl (wakes2_ok) rfl rfl ?_
  refine awps_stp0 rfl rfl (by decide) (stp_move (.inr rfl) rfl) ?_
  refine awps_nil ?_
  refine thenQ_nil ?_
  refine awp_ret ?_
  -- leaf 0Fg25F
  refine ret0 (noL hL) (.inl rfl) (resAs_tmp rfl (resAs_nil)) ?_ ?_
  · rfl
  first
  | exact ⟨rfl, rfl⟩
  | exact absurd hz1 (by assumption)
  | exact absurd hge (by assumption)
  | exact absurd hj1 (by assumption)
  | (exfalso; rw [hz2, hes] at c4; cases c4; done)
  | (exfalso; rw [hgt, hes] at g105; cases g105; done)
  | (exfalso; rw [if_pos hmb] at c6; exact absurd rfl c6)
  | (exfalso; rw [← hj2, hjs] at c8; cases c8; done)
  | (trace_state; fail)
end Go.Proofs.Ytdecgkhdbfgldaa
