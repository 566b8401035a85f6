/- Part 11 of the proof: Gp. -/
import Derived.Test.YtdecgkhdbfgldaaE10
set_option linter.unusedVariables false
set_option linter.unusedSimpArgs false
set_option maxRecDepth 8000
namespace Go.Proofs.Ytdecgkhdbfgldaa
open Go
section
variable {P : Program} {c : Ctx} {N : Nat} {Q : Exit → St → Prop} {σ : St}
theorem awp_cut {x y : Code} (mid : St) (h1 : awp P c N x (thenQ (fun σ' => Sub c N σ' mid) Q) σ) (h2 : awp P c N y Q mid) : awp P c N (.seq x y) Q σ :=
  awp_seq (awp_mono (fun e σ' h => by
    cases e with
    | normal => exact awp_sub h h2
    | _ => exact h) h1)
theorem thenQ_cut {mid : St} (h : Sub c N σ mid) : thenQ (fun σ' => Sub c N σ' mid) Q .normal σ := h
end
theorem applyT_dle (l : List Bd) (t : Tm) : dle 5 (applyT l t) := by
  have hz : dle 5 zeroTm := fun u hu => by cases hu
  unfold applyT intoT
  split
  · split
    · rename_i h; exact may_dle h
    · exact hz
  · exact hz
structure Alike (a b : Tm) (R Q M : List Bd × Int) : Prop where
  w : ∀ x ∈ R.1, x.wf
  len : R.1.length ≤ 16
  lenQ : Q.1.length ≤ 16
  mw : ∀ x ∈ M.1, x.wf ∧ dle 5 x.t
  mlen : M.1.length ≤ 1000
  c1 : R.2 ≠ 1 → (R.2 = 0 ∧ Q.2 = 0) ∨ (R.2 ≠ 0 ∧ Q.2 ≠ 0) ∨ R.2 = 2 ∨ Q.2 = 2
  c2 : R.2 = 0 → mayB R.1 = true ∧ applyE R.1 a = applyE R.1 b ∧ eqT 5 (applyT R.1 a) (applyT R.1 b) = true
  c3 : R.2 = 0 → Q.2 = 0 → R.1.length = Q.1.length
  c4 : M.2 = 0 → R.2 = 0 ∧ eqBds M.1 R.1 = true
theorem uniP_keeps {a b : Tm} (wa : a.wf) (wb : b.wf) {R : List Bd × Int} (h : uniP [] a b R) : (∀ x ∈ R.1, x.wf) ∧ R.1.length ≤ 16 := by
  rcases h with ⟨_, ma, mb, n, hn⟩ | ⟨_, rfl⟩
  · have p1 : ∀ p ∈ [(a, b)], PK p := fun p hp => by simp only [List.mem_cons, List.not_mem_nil, or_false] at hp; subst hp; exact ⟨TK_may ma wa, TK_may mb wb⟩
    rcases uni_err n [] _ R GB_nil p1 hn with h | ⟨h, _⟩
    · obtain ⟨x, e⟩ := R
      simp only at h; subst h
      obtain ⟨x1, _⟩ := uni_sound n [] _ x GB_nil p1 hn
      exact ⟨fun b hb => (x1.el b hb).1, x1.len⟩
    · rw [h]; exact ⟨(fun x hx => by cases hx), by simp⟩
  · exact ⟨(fun x hx => by cases hx), by simp⟩
theorem alike_of {a b : Tm} (wa : a.wf) (wb : b.wf) {R Q : List Bd × Int} (hR : uniP [] a b R) (hQ : uniP [] b a Q) : Alike a b R Q (matchR [] a b) := by
  obtain ⟨r1, r2⟩ := uniP_keeps wa wb hR
  obtain ⟨q1, q2⟩ := uniP_keeps wb wa hQ
  have hM : BOk (matchR [] a b).1 := by
    unfold matchR
    split
    · rename_i hc
      simp only [matchC, Bool.and_eq_true] at hc
      exact fitR_bok 5 [] a b nil_bok wa wb hc.1.2
    · exact nil_bok
  have hlaw : (mayT a = true ∧ mayT b = true) → ((R.2 = 0 ∧ Q.2 ≠ 0 → Q.2 = 2) ∧ (R.2 ≠ 0 ∧ Q.2 = 0 → R.2 = 2)) ∧ (R.2 = 0 → GB R.1 ∧ putT R.1 a = putT R.1 b) ∧ (R.2 = 0 ∧ Q.2 = 0 → R.1.length = Q.1.length) ∧ R.2 ≠ 1 := fun ⟨ma, mb⟩ => by
    rcases hR with ⟨_, _, _, n, hn⟩ | ⟨h, _⟩
    · rcases hQ with ⟨_, _, _, m, hm⟩ | ⟨h, _⟩
      · exact uni_alike ma mb wa wb hn hm
      · exact absurd ⟨by kernel_rfl, mb, ma⟩ h
    · exact absurd ⟨by kernel_rfl, ma, mb⟩ h
  have hmay : R.2 ≠ 1 → mayT a = true ∧ mayT b = true := fun h1 => by
    rcases hR with ⟨_, ma, mb, _⟩ | ⟨_, rfl⟩
    · exact ⟨ma, mb⟩
    · exact absurd rfl h1
  refine ⟨r1, r2, q2, fun x hx => ⟨(hM.el x hx).1, may_dle (hM.el x hx).2⟩, hM.len, fun h1 => ?_, fun h0 => ?_, fun h0 h0' => ?_, fun h0 => ?_⟩
  · obtain ⟨⟨k1, k2⟩, _⟩ := hlaw (hmay h1)
    by_cases e1 : R.2 = 0 <;> by_cases e2 : Q.2 = 0
    · exact .inl ⟨e1, e2⟩
    · exact .inr (.inr (.inr (k1 ⟨e1, e2⟩)))
    · exact .inr (.inr (.inl (k2 ⟨e1, e2⟩)))
    · exact .inr (.inl ⟨e1, e2⟩)
  · obtain ⟨ma, mb⟩ := hmay (by omega)
    obtain ⟨_, k, _⟩ := hlaw ⟨ma, mb⟩
    obtain ⟨g, e⟩ := k h0
    have hm := (mayB_iff r1).2 g
    have e2 : applyT R.1 a = applyT R.1 b := by rw [applyT, applyT, if_pos ⟨hm, ma⟩, if_pos ⟨hm, mb⟩, intoT, intoT, e]
    refine ⟨hm, ?_, ?_⟩
    · rw [applyE, applyE, if_pos ⟨hm, ma⟩, if_pos ⟨hm, mb⟩, intoE, intoE, e]
    · rw [← e2]; exact eqT_self (applyT_dle _ _)
  · obtain ⟨ma, mb⟩ := hmay (by omega)
    obtain ⟨_, _, k, _⟩ := hlaw ⟨ma, mb⟩
    exact k ⟨h0, h0'⟩
  · obtain ⟨k1, k2, _⟩ := match_law wa wb hR h0
    refine ⟨k1, ?_⟩
    rw [← k2]
    exact eqBds_self fun x hx => may_dle (hM.el x hx).2
theorem heavy0_ok : PF 32 [.agg [.imm (.slice none 0 0), .imm (.slice none 0 0), .imm (.slice none 0 0)]] (bv false) := by
  have h := Heavy2_ok ⟨[], [], []⟩ ⟨⟨Nat.zero_le _, fun l hl => by cases hl⟩, ⟨Nat.zero_le _, trivial⟩, Nat.zero_le _, fun s hs => by cases hs⟩
  rw [show heavy2 ⟨[], [], []⟩ = false by kernel_rfl] at h
  exact AC_le (.cons (.agg (.cons .nil (.cons .nil (.cons .nil .nil)))) .nil) h
theorem UnifyAlike_ok (p : Ask2) (hp : p.wf) : PF 8 [.agg (lift false (a2D p))] (bv true) := by
  obtain ⟨l, T, S⟩ := p
  obtain ⟨⟨hl, hwB⟩, ⟨hlT, hwT⟩, hlS, hwS⟩ := id hp
  have hlt := tmDs_length T
  have hlt2 : (tmDs (Ask2.mk l T S).T).length = T.length := hlt
  simp only [lenOk] at hl hlT
  refine AC_intro Try.func8 rfl Try.ntmps8 (Nat.le_of_ble_eq_true rfl) fun c hL hQ => ?_
  refine awp_seq ?_
  refine awp_region ?_
  refine awps_stp1 rfl rfl (by decide) (stp_box 1 rfl rfl rfl) rfl ?_
  refine awps_stp0 rfl rfl (by decide) (stp_move (.inr rfl) rfl) ?_
  refine awps_nil ?_
  refine thenQ_nil ?_
  refine awp_seq ?_
  refine awp_seq ?_
  refine awp_region ?_
  first | refine awps_stp0 rfl rfl (by decide) (stp_load_all rfl tf_almagestlaw2_Ask rfl rfl rfl rfl) ?_ | refine awps_stp0 rfl rfl (by decide) (stp_load rfl tf_almagestlaw2_Ask rfl rfl rfl rfl rfl) ?_ | refine awps_stp0 rfl rfl (by decide) (stp_load_elpa rfl tf_almagestlaw2_Ask rfl rfl) ?_ | refine awps_stp0 rfl rfl (by decide) (stp_load_elpn rfl tf_almagestlaw2_Ask rfl rfl rfl) ?_
  refine awps_call (avs := [_]) true rfl rfl rfl (by decide) en_almagestlaw2_Heavy rfl rfl (Heavy2_ok _ (by assumption)) rfl rfl ?_
  refine awps_nil ?_
  refine thenQ_nil ?_
  refine awp_cond rfl (fun c0 => ?_) (fun c0 => ?_)
  · try simp only [↓str_beq_t, ↓str_beq_f, decide_eq_true_eq, decide_eq_false_iff_not, Bool.not_eq_true', Bool.not_eq_false', Int.not_lt, Int.not_le, beq_iff_eq, beq_eq_false_iff_ne, bne_iff_ne, bne_eq_false_iff_eq, ne_eq] at c0
    refine awp_seq ?_
    refine awp_region ?_
    refine awps_stp0 rfl rfl (by decide) (stp_move (.inr rfl) rfl) ?_
    refine awps_nil ?_
    refine thenQ_nil ?_
    refine awp_ret ?_
    refine thenQ_ret (?_)
    -- leaf 0T
    refine ret0 (noL hL) (.inl rfl) (resAs_tmp rfl (resAs_nil)) ?_ ?_
    · rfl
    first
    | exact ⟨rfl, rfl⟩
    | (exfalso
       rcases hA.c1 c3 with ⟨h, h'⟩ | ⟨h, h'⟩ | h | h
       · exact g77 (by rw [h, h'])
       · exact g77 (by rw [beq_eq_false_iff_ne.2 h, beq_eq_false_iff_ne.2 h'])
       · exact g82 h
       · exact c4 h)
    | exact absurd (hA.c2 c5).2.1 g115
    | (exfalso; rw [(hA.c2 c5).2.2] at g126; cases g126; done)
    | (exfalso; rw [if_pos (hA.c2 c5).1] at c6; exact c6 rfl)
    | (exfalso; have := hA.c3 g135 g140; omega)
    | exact absurd (hA.c4 g164).1 g168
    | (exfalso; rw [(hA.c4 g164).2] at c8; cases c8; done)
    | cases g178
  try simp only [↓str_beq_t, ↓str_beq_f, decide_eq_true_eq, decide_eq_false_iff_not, Bool.not_eq_true', Bool.not_eq_false', Int.not_lt, Int.not_le, beq_iff_eq, beq_eq_false_iff_ne, bne_iff_ne, bne_eq_false_iff_eq, ne_eq] at c0
  refine awp_skip ?_
  refine thenQ_nil ?_
  refine awp_seq ?_
  refine awp_seq ?_
  refine awp_region ?_
  refine awps_stp0 rfl rfl (by decide) (stp_move (.inr rfl) rfl) ?_
  refine awps_nil ?_
  refine thenQ_nil ?_
  refine awp_block ?_
  refine awp_while (5) (fun _ => True) (fun k => ⟨[(1, .ptr 1 0), (3, iv (k : Int))], [(1, .box (lift false (a2D ⟨l, T, S⟩)))]⟩) (trivial) ?_ (fun k hk hp => ?_)
  · exact sub_re (SubT.cons (lk_eq rfl (by first | rfl | simp)) (SubT.cons (lk_eq rfl (by first | rfl | simp)) (SubT.nil))) (SubO.cons (ok_eq rfl (by rfl)) (SubO.nil)) rfl rfl (noL' (noL hL) _)
  refine awp_seq ?_
  refine awp_seq ?_
  refine awp_region ?_
  refine awps_stp0 rfl rfl (by decide) (stp_move (.inl rfl) rfl) ?_
  first | refine awps_stp0 rfl rfl (by decide) (stp_fieldAddr rfl fo_almagestlaw2_Ask_1 rfl) ?_ | refine awps_stp0 rfl rfl (by decide) (stp_fieldAddr_elp rfl fo_almagestlaw2_Ask_1 rfl) ?_
  first | refine awps_stp0 rfl rfl (by decide) (stp_load rfl tf_S_api_Term rfl rfl rfl rfl rfl) ?_ | refine awps_stp0 rfl rfl (by decide) (stp_load_elp1 rfl tf_S_api_Term rfl) ?_ | refine awps_stp0 rfl rfl (by decide) (stp_load_elpn rfl tf_S_api_Term rfl rfl rfl) ?_
  first | refine awps_stp0 rfl rfl (by decide) (stp_len_dat rfl sl_S_api_Term rfl) ?_ | refine awps_stp0 rfl rfl (by decide) (stp_len_rowd rfl sl_S_api_Term rfl rfl) ?_ | refine awps_stp0 rfl rfl (by decide) (stp_len_nil rfl sl_S_api_Term rfl) ?_ | refine awps_stp0 rfl rfl (by decide) (stp_len_vw rfl sl_S_api_Term rfl) ?_
  refine awps_stp0 rfl rfl (by decide) (stp_binI rfl rfl rfl rfl) ?_
  refine awps_stp0 rfl rfl (by decide) (stp_move (.inl rfl) rfl) ?_
  refine awps_split 22 rfl (fun g22 => ?_) (fun g22 => ?_)
  · try simp only [↓str_beq_t, ↓str_beq_f, decide_eq_true_eq, decide_eq_false_iff_not, Bool.not_eq_true', Bool.not_eq_false', Int.not_lt, Int.not_le, beq_iff_eq, beq_eq_false_iff_ne, bne_iff_ne, bne_eq_false_iff_eq, ne_eq] at g22
    refine awps_g0 rfl rfl rfl (by decide) rfl (by decide) (stp_move (.inl rfl) rfl) ?_
    refine awps_g0 rfl rfl rfl (by decide) rfl (by decide) (stp_binI rfl rfl rfl rfl) ?_
    refine awps_stp0 rfl rfl (by decide) (stp_pick rfl rfl rfl) ?_
    refine awps_nil ?_
    refine thenQ_nil ?_
    refine awp_cond rfl (fun c1 => ?_) (fun c1 => ?_)
    · try simp only [↓str_beq_t, ↓str_beq_f, decide_eq_true_eq, decide_eq_false_iff_not, Bool.not_eq_true', Bool.not_eq_false', Int.not_lt, Int.not_le, beq_iff_eq, beq_eq_false_iff_ne, bne_iff_ne, bne_eq_false_iff_eq, ne_eq] at c1
      obtain ⟨a, ha⟩ := get_of_lt (l := T) (k := k) (by omega)
      have wa := Tm.wfs_get hwT ha
      refine awp_skip ?_
      refine thenQ_nil ?_
      refine awp_seq ?_
      refine awp_block ?_
      refine awp_seq ?_
      refine awp_region ?_
      refine awps_stp0 rfl rfl (by decide) (stp_move (.inr rfl) rfl) ?_
      refine awps_nil ?_
      refine thenQ_nil ?_
      refine awp_block ?_
      refine awp_while (5) (fun _ => True) (fun j => ⟨[(1, .ptr 1 0), (3, iv (k : Int)), (4, iv (j : Int))], [(1, .box (lift false (a2D ⟨l, T, S⟩)))]⟩) (trivial) ?_ (fun j hj hpj => ?_)
      · exact sub_re (SubT.cons (lk_eq rfl (by first | rfl | simp)) (SubT.cons (lk_eq rfl (by first | rfl | simp)) (SubT.cons (lk_eq rfl (by first | rfl | simp)) (SubT.nil)))) (SubO.cons (ok_eq rfl (by rfl)) (SubO.nil)) rfl rfl (noL' (noL hL) _)
      refine awp_seq ?_
      refine awp_seq ?_
      refine awp_region ?_
      refine awps_stp0 rfl rfl (by decide) (stp_move (.inl rfl) rfl) ?_
      first | refine awps_stp0 rfl rfl (by decide) (stp_fieldAddr rfl fo_almagestlaw2_Ask_1 rfl) ?_ | refine awps_stp0 rfl rfl (by decide) (stp_fieldAddr_elp rfl fo_almagestlaw2_Ask_1 rfl) ?_
      first | refine awps_stp0 rfl rfl (by decide) (stp_load rfl tf_S_api_Term rfl rfl rfl rfl rfl) ?_ | refine awps_stp0 rfl rfl (by decide) (stp_load_elp1 rfl tf_S_api_Term rfl) ?_ | refine awps_stp0 rfl rfl (by decide) (stp_load_elpn rfl tf_S_api_Term rfl rfl rfl) ?_
      first | refine awps_stp0 rfl rfl (by decide) (stp_len_dat rfl sl_S_api_Term rfl) ?_ | refine awps_stp0 rfl rfl (by decide) (stp_len_rowd rfl sl_S_api_Term rfl rfl) ?_ | refine awps_stp0 rfl rfl (by decide) (stp_len_nil rfl sl_S_api_Term rfl) ?_ | refine awps_stp0 rfl rfl (by decide) (stp_len_vw rfl sl_S_api_Term rfl) ?_
      refine awps_stp0 rfl rfl (by decide) (stp_binI rfl rfl rfl rfl) ?_
      refine awps_stp0 rfl rfl (by decide) (stp_move (.inl rfl) rfl) ?_
      refine awps_split 33 rfl (fun g33 => ?_) (fun g33 => ?_)
      · try simp only [↓str_beq_t, ↓str_beq_f, decide_eq_true_eq, decide_eq_false_iff_not, Bool.not_eq_true', Bool.not_eq_false', Int.not_lt, Int.not_le, beq_iff_eq, beq_eq_false_iff_ne, bne_iff_ne, bne_eq_false_iff_eq, ne_eq] at g33
        refine awps_g0 rfl rfl rfl (by decide) rfl (by decide) (stp_move (.inl rfl) rfl) ?_
        refine awps_g0 rfl rfl rfl (by decide) rfl (by decide) (stp_binI rfl rfl rfl rfl) ?_
        refine awps_stp0 rfl rfl (by decide) (stp_pick rfl rfl rfl) ?_
        refine awps_nil ?_
        refine thenQ_nil ?_
        refine awp_cond rfl (fun c2 => ?_) (fun c2 => ?_)
        · try simp only [↓str_beq_t, ↓str_beq_f, decide_eq_true_eq, decide_eq_false_iff_not, Bool.not_eq_true', Bool.not_eq_false', Int.not_lt, Int.not_le, beq_iff_eq, beq_eq_false_iff_ne, bne_iff_ne, bne_eq_false_iff_eq, ne_eq] at c2
          obtain ⟨b, hb⟩ := get_of_lt (l := T) (k := j) (by omega)
          have wb := Tm.wfs_get hwT hb
          obtain ⟨R, hRR⟩ := uni_exists wa wb
          obtain ⟨W, hWW⟩ := uni_exists wb wa
          have hA := alike_of wa wb hRR hWW
          have k1 := uni0 a b R wa wb hRR
          have k2 := uni0 b a W wb wa hWW
          have hl1 := bdDs_length R.1
          have hl2 := bdDs_length W.1
          refine awp_skip ?_
          refine thenQ_nil ?_
          refine awp_seq ?_
          refine awp_block ?_
          refine awp_seq ?_
          refine awp_drawG 15 mixed rfl rfl rfl rfl ?_
          first | refine MGo_c0 rfl (by decide) (.run rfl (stp_fieldAddr rfl fo_almagestlaw2_Ask_1 rfl)) ?_ | refine MGo_c0 rfl (by decide) (.run rfl (stp_fieldAddr_elp rfl fo_almagestlaw2_Ask_1 rfl)) ?_
          first | refine MGo_c0 rfl (by decide) (.run rfl (stp_load rfl tf_S_api_Term rfl rfl rfl rfl rfl)) ?_ | refine MGo_c0 rfl (by decide) (.run rfl (stp_load_elp1 rfl tf_S_api_Term rfl)) ?_ | refine MGo_c0 rfl (by decide) (.run rfl (stp_load_elpn rfl tf_S_api_Term rfl rfl rfl)) ?_
          refine MGo_c0 rfl (by decide) (.run rfl (stp_move (.inl rfl) rfl)) ?_
          first | refine MGo_c0 rfl (by decide) (.run rfl (stp_indexAddr rfl sl_S_api_Term rfl rfl (by omega) (tmDs_get ha))) ?_ | refine MGo_c0 rfl (by decide) (.run rfl (stp_indexAddr_rowd rfl sl_S_api_Term rfl rfl rfl (by omega) (tmDs_get ha))) ?_ | refine MGo_c0 rfl (by decide) (.run rfl (stp_indexAddr_row rfl sl_S_api_Term rfl rfl rfl (by omega) (tmDs_get ha) (by decide))) ?_
          first | refine MGo_c0 rfl (by decide) (.run rfl (stp_load_all rfl tf_api_Term rfl rfl rfl rfl)) ?_ | refine MGo_c0 rfl (by decide) (.run rfl (stp_load rfl tf_api_Term rfl rfl rfl rfl rfl)) ?_ | refine MGo_c0 rfl (by decide) (.run rfl (stp_load_elpa rfl tf_api_Term rfl rfl)) ?_ | refine MGo_c0 rfl (by decide) (.run rfl (stp_load_elpn rfl tf_api_Term rfl rfl rfl)) ?_
          first | refine MGo_c0 rfl (by decide) (.run rfl (stp_fieldAddr rfl fo_almagestlaw2_Ask_1 rfl)) ?_ | refine MGo_c0 rfl (by decide) (.run rfl (stp_fieldAddr_elp rfl fo_almagestlaw2_Ask_1 rfl)) ?_
          first | refine MGo_c0 rfl (by decide) (.run rfl (stp_load rfl tf_S_api_Term rfl rfl rfl rfl rfl)) ?_ | refine MGo_c0 rfl (by decide) (.run rfl (stp_load_elp1 rfl tf_S_api_Term rfl)) ?_ | refine MGo_c0 rfl (by decide) (.run rfl (stp_load_elpn rfl tf_S_api_Term rfl rfl rfl)) ?_
          refine MGo_c0 rfl (by decide) (.run rfl (stp_move (.inl rfl) rfl)) ?_
          first | refine MGo_c0 rfl (by decide) (.run rfl (stp_indexAddr rfl sl_S_api_Term rfl rfl (by omega) (tmDs_get hb))) ?_ | refine MGo_c0 rfl (by decide) (.run rfl (stp_indexAddr_rowd rfl sl_S_api_Term rfl rfl rfl (by omega) (tmDs_get hb))) ?_ | refine MGo_c0 rfl (by decide) (.run rfl (stp_indexAddr_row rfl sl_S_api_Term rfl rfl rfl (by omega) (tmDs_get hb) (by decide))) ?_
          first | refine MGo_c0 rfl (by decide) (.run rfl (stp_load_all rfl tf_api_Term rfl rfl rfl rfl)) ?_ | refine MGo_c0 rfl (by decide) (.run rfl (stp_load rfl tf_api_Term rfl rfl rfl rfl rfl)) ?_ | refine MGo_c0 rfl (by decide) (.run rfl (stp_load_elpa rfl tf_api_Term rfl rfl)) ?_ | refine MGo_c0 rfl (by decide) (.run rfl (stp_load_elpn rfl tf_api_Term rfl rfl rfl)) ?_
          refine MGo_c0 rfl (by decide) (.run rfl (stp_call (avs := [_, _, _]) false rfl en_unify_Unify rfl rfl (k1) (fun _ => rfl) rfl)) ?_
          refine MGo_c0 rfl (by decide) (.run rfl (stp_move (.inl rfl) rfl)) ?_
          refine MGo_c0 rfl (by decide) (.run rfl (stp_extract rfl rfl rfl)) ?_
          refine MGo_c0 rfl (by decide) (.run rfl (stp_extract rfl rfl rfl)) ?_
          refine MGo_c0 rfl (by decide) (.run rfl (stp_move (.inr rfl) rfl)) ?_
          refine MGo_nil ⟨rfl, rfl, ?_⟩
          refine awps_stp0 rfl rfl (by decide) (stp_move (.inr rfl) rfl) ?_
          refine awps_nil ?_
          refine thenQ_nil ?_
          refine awp_seq ?_
          refine awp_drawG 15 mixed rfl rfl rfl rfl ?_
          first | refine MGo_c0 rfl (by decide) (.run rfl (stp_fieldAddr rfl fo_almagestlaw2_Ask_1 rfl)) ?_ | refine MGo_c0 rfl (by decide) (.run rfl (stp_fieldAddr_elp rfl fo_almagestlaw2_Ask_1 rfl)) ?_
          first | refine MGo_c0 rfl (by decide) (.run rfl (stp_load rfl tf_S_api_Term rfl rfl rfl rfl rfl)) ?_ | refine MGo_c0 rfl (by decide) (.run rfl (stp_load_elp1 rfl tf_S_api_Term rfl)) ?_ | refine MGo_c0 rfl (by decide) (.run rfl (stp_load_elpn rfl tf_S_api_Term rfl rfl rfl)) ?_
          refine MGo_c0 rfl (by decide) (.run rfl (stp_move (.inl rfl) rfl)) ?_
          first | refine MGo_c0 rfl (by decide) (.run rfl (stp_indexAddr rfl sl_S_api_Term rfl rfl (by omega) (tmDs_get hb))) ?_ | refine MGo_c0 rfl (by decide) (.run rfl (stp_indexAddr_rowd rfl sl_S_api_Term rfl rfl rfl (by omega) (tmDs_get hb))) ?_ | refine MGo_c0 rfl (by decide) (.run rfl (stp_indexAddr_row rfl sl_S_api_Term rfl rfl rfl (by omega) (tmDs_get hb) (by decide))) ?_
          first | refine MGo_c0 rfl (by decide) (.run rfl (stp_load_all rfl tf_api_Term rfl rfl rfl rfl)) ?_ | refine MGo_c0 rfl (by decide) (.run rfl (stp_load rfl tf_api_Term rfl rfl rfl rfl rfl)) ?_ | refine MGo_c0 rfl (by decide) (.run rfl (stp_load_elpa rfl tf_api_Term rfl rfl)) ?_ | refine MGo_c0 rfl (by decide) (.run rfl (stp_load_elpn rfl tf_api_Term rfl rfl rfl)) ?_
          first | refine MGo_c0 rfl (by decide) (.run rfl (stp_fieldAddr rfl fo_almagestlaw2_Ask_1 rfl)) ?_ | refine MGo_c0 rfl (by decide) (.run rfl (stp_fieldAddr_elp rfl fo_almagestlaw2_Ask_1 rfl)) ?_
          first | refine MGo_c0 rfl (by decide) (.run rfl (stp_load rfl tf_S_api_Term rfl rfl rfl rfl rfl)) ?_ | refine MGo_c0 rfl (by decide) (.run rfl (stp_load_elp1 rfl tf_S_api_Term rfl)) ?_ | refine MGo_c0 rfl (by decide) (.run rfl (stp_load_elpn rfl tf_S_api_Term rfl rfl rfl)) ?_
          refine MGo_c0 rfl (by decide) (.run rfl (stp_move (.inl rfl) rfl)) ?_
          first | refine MGo_c0 rfl (by decide) (.run rfl (stp_indexAddr rfl sl_S_api_Term rfl rfl (by omega) (tmDs_get ha))) ?_ | refine MGo_c0 rfl (by decide) (.run rfl (stp_indexAddr_rowd rfl sl_S_api_Term rfl rfl rfl (by omega) (tmDs_get ha))) ?_ | refine MGo_c0 rfl (by decide) (.run rfl (stp_indexAddr_row rfl sl_S_api_Term rfl rfl rfl (by omega) (tmDs_get ha) (by decide))) ?_
          first | refine MGo_c0 rfl (by decide) (.run rfl (stp_load_all rfl tf_api_Term rfl rfl rfl rfl)) ?_ | refine MGo_c0 rfl (by decide) (.run rfl (stp_load rfl tf_api_Term rfl rfl rfl rfl rfl)) ?_ | refine MGo_c0 rfl (by decide) (.run rfl (stp_load_elpa rfl tf_api_Term rfl rfl)) ?_ | refine MGo_c0 rfl (by decide) (.run rfl (stp_load_elpn rfl tf_api_Term rfl rfl rfl)) ?_
          refine MGo_c0 rfl (by decide) (.run rfl (stp_call (avs := [_, _, _]) false rfl en_unify_Unify rfl rfl (k2) (fun _ => rfl) rfl)) ?_
          refine MGo_c0 rfl (by decide) (.run rfl (stp_move (.inl rfl) rfl)) ?_
          refine MGo_c0 rfl (by decide) (.run rfl (stp_extract rfl rfl rfl)) ?_
          refine MGo_c0 rfl (by decide) (.run rfl (stp_extract rfl rfl rfl)) ?_
          refine MGo_c0 rfl (by decide) (.run rfl (stp_move (.inr rfl) rfl)) ?_
          refine MGo_nil ⟨rfl, rfl, ?_⟩
          refine awps_stp0 rfl rfl (by decide) (stp_move (.inr rfl) rfl) ?_
          refine awps_nil ?_
          refine thenQ_nil ?_
          refine awp_seq ?_
          refine awp_seq ?_
          refine awp_region ?_
          refine awps_stp0 rfl rfl (by decide) (stp_move (.inl rfl) rfl) ?_
          refine awps_call (avs := [_]) true rfl rfl rfl (by decide) en_almagestlaw3_num rfl rfl (num3_ok _) rfl rfl ?_
          refine awps_stp0 rfl rfl (by decide) (stp_binI rfl rfl rfl rfl) ?_
          refine awps_nil ?_
          refine thenQ_nil ?_
          refine awp_cond rfl (fun c3 => ?_) (fun c3 => ?_)
          · try simp only [↓str_beq_t, ↓str_beq_f, decide_eq_true_eq, decide_eq_false_iff_not, Bool.not_eq_true', Bool.not_eq_false', Int.not_lt, Int.not_le, beq_iff_eq, beq_eq_false_iff_ne, bne_iff_ne, bne_eq_false_iff_eq, ne_eq] at c3
            refine awp_exit ?_
            refine thenQ_exit (inQ_hit ?_)
            refine thenQ_nil ?_
            refine awp_region ?_
            refine awps_stp0 rfl rfl (by decide) (stp_move (.inl rfl) rfl) ?_
            refine awps_stp0 rfl rfl (by decide) (stp_add rfl rfl rfl (by omega)) ?_
            refine awps_stp0 rfl rfl (by decide) (stp_move (.inr rfl) rfl) ?_
            refine awps_nil ?_
            refine thenQ_nil ?_
            refine ⟨?_, ?_, ?_⟩
            · skip
              omega
            · skip
              trivial
            exact sub_re (SubT.cons (lk_eq rfl (by first | rfl | simp)) (SubT.cons (lk_eq rfl (by first | rfl | simp)) (SubT.cons (lk_eq rfl (by first | rfl | simp)) (SubT.nil)))) (SubO.cons (ok_eq rfl (by rfl)) (SubO.nil)) rfl rfl (noL' (noL hL) _)
          try simp only [↓str_beq_t, ↓str_beq_f, decide_eq_true_eq, decide_eq_false_iff_not, Bool.not_eq_true', Bool.not_eq_false', Int.not_lt, Int.not_le, beq_iff_eq, beq_eq_false_iff_ne, bne_iff_ne, bne_eq_false_iff_eq, ne_eq] at c3
          refine awp_skip ?_
          refine thenQ_nil ?_
          refine awp_cut ⟨[(1, .ptr 1 0), (3, iv (k : Int)), (4, iv (j : Int)), (5, bdA R.1), (6, iv R.2), (7, bdA W.1), (8, iv W.2)], [(1, .box (lift false (a2D ⟨l, T, S⟩)))]⟩ ?_ ?_
          · skip
            refine awp_seq ?_
            refine awp_region ?_
            refine awps_stp0 rfl rfl (by decide) (stp_move (.inl rfl) rfl) ?_
            refine awps_call (avs := [_]) true rfl rfl rfl (by decide) en_almagestlaw3_num rfl rfl (num3_ok _) rfl rfl ?_
            refine awps_stp0 rfl rfl (by decide) (stp_binI rfl rfl rfl rfl) ?_
            refine awps_stp0 rfl rfl (by decide) (stp_move (.inl rfl) rfl) ?_
            refine awps_call (avs := [_]) true rfl rfl rfl (by decide) en_almagestlaw3_num rfl rfl (num3_ok _) rfl rfl ?_
            refine awps_stp0 rfl rfl (by decide) (stp_binI rfl rfl rfl rfl) ?_
            refine awps_stp0 rfl rfl (by decide) (stp_neB rfl ul_bool rfl rfl) ?_
            refine awps_stp0 rfl rfl (by decide) (stp_move (.inl rfl) rfl) ?_
            refine awps_split 77 rfl (fun g77 => ?_) (fun g77 => ?_)
            · try simp only [↓str_beq_t, ↓str_beq_f, decide_eq_true_eq, decide_eq_false_iff_not, Bool.not_eq_true', Bool.not_eq_false', Int.not_lt, Int.not_le, beq_iff_eq, beq_eq_false_iff_ne, bne_iff_ne, bne_eq_false_iff_eq, ne_eq] at g77
              refine awps_g0 rfl rfl rfl (by decide) rfl (by decide) (stp_move (.inl rfl) rfl) ?_
              refine awps_g0 rfl rfl rfl (by decide) rfl (by decide) (stp_call (avs := [_]) true rfl en_almagestlaw3_num rfl rfl (num3_ok _) (fun _ => rfl) rfl) ?_
              refine awps_g0 rfl rfl rfl (by decide) rfl (by decide) (stp_binI rfl rfl rfl rfl) ?_
              refine awps_stp0 rfl rfl (by decide) (stp_pick rfl rfl rfl) ?_
              refine awps_stp0 rfl rfl (by decide) (stp_move (.inl rfl) rfl) ?_
              refine awps_split 82 rfl (fun g82 => ?_) (fun g82 => ?_)
              · try simp only [↓str_beq_t, ↓str_beq_f, decide_eq_true_eq, decide_eq_false_iff_not, Bool.not_eq_true', Bool.not_eq_false', Int.not_lt, Int.not_le, beq_iff_eq, beq_eq_false_iff_ne, bne_iff_ne, bne_eq_false_iff_eq, ne_eq] at g82
                refine awps_g0 rfl rfl rfl (by decide) rfl (by decide) (stp_move (.inl rfl) rfl) ?_
                refine awps_g0 rfl rfl rfl (by decide) rfl (by decide) (stp_call (avs := [_]) true rfl en_almagestlaw3_num rfl rfl (num3_ok _) (fun _ => rfl) rfl) ?_
                refine awps_g0 rfl rfl rfl (by decide) rfl (by decide) (stp_binI rfl rfl rfl rfl) ?_
                refine awps_stp0 rfl rfl (by decide) (stp_pick rfl rfl rfl) ?_
                refine awps_nil ?_
                refine thenQ_nil ?_
                refine awp_cond rfl (fun c4 => ?_) (fun c4 => ?_)
                · try simp only [↓str_beq_t, ↓str_beq_f, decide_eq_true_eq, decide_eq_false_iff_not, Bool.not_eq_true', Bool.not_eq_false', Int.not_lt, Int.not_le, beq_iff_eq, beq_eq_false_iff_ne, bne_iff_ne, bne_eq_false_iff_eq, ne_eq] at c4
                  refine awp_seq ?_
                  refine awp_region ?_
                  refine awps_stp0 rfl rfl (by decide) (stp_move (.inr rfl) rfl) ?_
                  refine awps_nil ?_
                  refine thenQ_nil ?_
                  refine awp_ret ?_
                  refine thenQ_ret (inQ_ret (thenQ_ret (thenQ_ret (inQ_ret (inQ_ret (thenQ_ret (thenQ_ret (inQ_ret (thenQ_ret (?_))))))))))
                  -- leaf 0Fg22T1Tg33T2T3Fg77Tg82T4T
                  refine ret0 (noL hL) (.inl rfl) (resAs_tmp rfl (resAs_nil)) ?_ ?_
                  · rfl
                  first
                  | exact ⟨rfl, rfl⟩
                  | (exfalso
                     rcases hA.c1 c3 with ⟨h, h'⟩ | ⟨h, h'⟩ | h | h
                     · exact g77 (by rw [h, h'])
                     · exact g77 (by rw [beq_eq_false_iff_ne.2 h, beq_eq_false_iff_ne.2 h'])
                     · exact g82 h
                     · exact c4 h)
                  | exact absurd (hA.c2 c5).2.1 g115
                  | (exfalso; rw [(hA.c2 c5).2.2] at g126; cases g126; done)
                  | (exfalso; rw [if_pos (hA.c2 c5).1] at c6; exact c6 rfl)
                  | (exfalso; have := hA.c3 g135 g140; omega)
                  | exact absurd (hA.c4 g164).1 g168
                  | (exfalso; rw [(hA.c4 g164).2] at c8; cases c8; done)
                  | cases g178
                try simp only [↓str_beq_t, ↓str_beq_f, decide_eq_true_eq, decide_eq_false_iff_not, Bool.not_eq_true', Bool.not_eq_false', Int.not_lt, Int.not_le, beq_iff_eq, beq_eq_false_iff_ne, bne_iff_ne, bne_eq_false_iff_eq, ne_eq] at c4
                refine awp_skip ?_
                exact thenQ_cut (sub_re (SubT.cons (lk_eq rfl (by first | rfl | simp)) (SubT.cons (lk_eq rfl (by first | rfl | simp)) (SubT.cons (lk_eq rfl (by first | rfl | simp)) (SubT.cons (lk_eq rfl (by first | rfl | simp)) (SubT.cons (lk_eq rfl (by first | rfl | simp)) (SubT.cons (lk_eq rfl (by first | rfl | simp)) (SubT.cons (lk_eq rfl (by first | rfl | simp)) (SubT.nil)))))))) (SubO.cons (ok_eq rfl (by rfl)) (SubO.nil)) rfl rfl (noL' (noL hL) _))
              try simp only [↓str_beq_t, ↓str_beq_f, decide_eq_true_eq, decide_eq_false_iff_not, Bool.not_eq_true', Bool.not_eq_false', Int.not_lt, Int.not_le, beq_iff_eq, beq_eq_false_iff_ne, bne_iff_ne, bne_eq_false_iff_eq, ne_eq] at g82
              refine awps_gs rfl rfl rfl rfl (by decide) rfl (by decide) ?_
              refine awps_gs rfl rfl rfl rfl (by decide) rfl (by decide) ?_
              refine awps_gs rfl rfl rfl rfl (by decide) rfl (by decide) ?_
              refine awps_stp0 rfl rfl (by decide) (stp_pick rfl rfl rfl) ?_
              refine awps_nil ?_
              refine thenQ_nil ?_
              refine awp_condF rfl ?_
              refine awp_skip ?_
              exact thenQ_cut (sub_re (SubT.cons (lk_eq rfl (by first | rfl | simp)) (SubT.cons (lk_eq rfl (by first | rfl | simp)) (SubT.cons (lk_eq rfl (by first | rfl | simp)) (SubT.cons (lk_eq rfl (by first | rfl | simp)) (SubT.cons (lk_eq rfl (by first | rfl | simp)) (SubT.cons (lk_eq rfl (by first | rfl | simp)) (SubT.cons (lk_eq rfl (by first | rfl | simp)) (SubT.nil)))))))) (SubO.cons (ok_eq rfl (by rfl)) (SubO.nil)) rfl rfl (noL' (noL hL) _))
            try simp only [↓str_beq_t, ↓str_beq_f, decide_eq_true_eq, decide_eq_false_iff_not, Bool.not_eq_true', Bool.not_eq_false', Int.not_lt, Int.not_le, beq_iff_eq, beq_eq_false_iff_ne, bne_iff_ne, bne_eq_false_iff_eq, ne_eq] at g77
            refine awps_gs rfl rfl rfl rfl (by decide) rfl (by decide) ?_
            refine awps_gs rfl rfl rfl rfl (by decide) rfl (by decide) ?_
            refine awps_gs rfl rfl rfl rfl (by decide) rfl (by decide) ?_
            refine awps_stp0 rfl rfl (by decide) (stp_pick rfl rfl rfl) ?_
            refine awps_stp0 rfl rfl (by decide) (stp_move (.inl rfl) rfl) ?_
            refine awps_gs rfl rfl rfl rfl (by decide) rfl (by decide) ?_
            refine awps_gs rfl rfl rfl rfl (by decide) rfl (by decide) ?_
            refine awps_gs rfl rfl rfl rfl (by decide) rfl (by decide) ?_
            refine awps_stp0 rfl rfl (by decide) (stp_pick rfl rfl rfl) ?_
            refine awps_nil ?_
            refine thenQ_nil ?_
            refine awp_condF rfl ?_
            refine awp_skip ?_
            exact thenQ_cut (sub_re (SubT.cons (lk_eq rfl (by first | rfl | simp)) (SubT.cons (lk_eq rfl (by first | rfl | simp)) (SubT.cons (lk_eq rfl (by first | rfl | simp)) (SubT.cons (lk_eq rfl (by first | rfl | simp)) (SubT.cons (lk_eq rfl (by first | rfl | simp)) (SubT.cons (lk_eq rfl (by first | rfl | simp)) (SubT.cons (lk_eq rfl (by first | rfl | simp)) (SubT.nil)))))))) (SubO.cons (ok_eq rfl (by rfl)) (SubO.nil)) rfl rfl (noL' (noL hL) _))
          refine awp_cut ⟨[(1, .ptr 1 0), (3, iv (k : Int)), (4, iv (j : Int)), (5, bdA R.1), (6, iv R.2), (7, bdA W.1), (8, iv W.2)], [(1, .box (lift false (a2D ⟨l, T, S⟩)))]⟩ ?_ ?_
          · skip
            refine awp_seq ?_
            refine awp_region ?_
            refine awps_stp0 rfl rfl (by decide) (stp_move (.inl rfl) rfl) ?_
            refine awps_call (avs := [_]) true rfl rfl rfl (by decide) en_almagestlaw3_num rfl rfl (num3_ok _) rfl rfl ?_
            refine awps_stp0 rfl rfl (by decide) (stp_binI rfl rfl rfl rfl) ?_
            refine awps_nil ?_
            refine thenQ_nil ?_
            refine awp_cond rfl (fun c5 => ?_) (fun c5 => ?_)
            · try simp only [↓str_beq_t, ↓str_beq_f, decide_eq_true_eq, decide_eq_false_iff_not, Bool.not_eq_true', Bool.not_eq_false', Int.not_lt, Int.not_le, beq_iff_eq, beq_eq_false_iff_ne, bne_iff_ne, bne_eq_false_iff_eq, ne_eq] at c5
              refine awp_seq ?_
              refine awp_region ?_
              refine awps_stp0 rfl rfl (by decide) (stp_move (.inl rfl) rfl) ?_
              first | refine awps_stp0 rfl rfl (by decide) (stp_fieldAddr rfl fo_almagestlaw2_Ask_1 rfl) ?_ | refine awps_stp0 rfl rfl (by decide) (stp_fieldAddr_elp rfl fo_almagestlaw2_Ask_1 rfl) ?_
              first | refine awps_stp0 rfl rfl (by decide) (stp_load rfl tf_S_api_Term rfl rfl rfl rfl rfl) ?_ | refine awps_stp0 rfl rfl (by decide) (stp_load_elp1 rfl tf_S_api_Term rfl) ?_ | refine awps_stp0 rfl rfl (by decide) (stp_load_elpn rfl tf_S_api_Term rfl rfl rfl) ?_
              refine awps_stp0 rfl rfl (by decide) (stp_move (.inl rfl) rfl) ?_
              first | refine awps_stp0 rfl rfl (by decide) (stp_indexAddr rfl sl_S_api_Term rfl rfl (by omega) (tmDs_get ha)) ?_ | refine awps_stp0 rfl rfl (by decide) (stp_indexAddr_rowd rfl sl_S_api_Term rfl rfl rfl (by omega) (tmDs_get ha)) ?_ | refine awps_stp0 rfl rfl (by decide) (stp_indexAddr_row rfl sl_S_api_Term rfl rfl rfl (by omega) (tmDs_get ha) (by decide)) ?_
              first | refine awps_stp0 rfl rfl (by decide) (stp_load_all rfl tf_api_Term rfl rfl rfl rfl) ?_ | refine awps_stp0 rfl rfl (by decide) (stp_load rfl tf_api_Term rfl rfl rfl rfl rfl) ?_ | refine awps_stp0 rfl rfl (by decide) (stp_load_elpa rfl tf_api_Term rfl rfl) ?_ | refine awps_stp0 rfl rfl (by decide) (stp_load_elpn rfl tf_api_Term rfl rfl rfl) ?_
              refine awps_call (avs := [_, _]) true rfl rfl rfl (by decide) en_bind_Apply rfl rfl (Apply_ok R.1 hA.w a wa) rfl rfl ?_
              refine awps_stp0 rfl rfl (by decide) (stp_move (.inl rfl) rfl) ?_
              refine awps_stp0 rfl rfl (by decide) (stp_extract rfl rfl rfl) ?_
              refine awps_stp0 rfl rfl (by decide) (stp_extract rfl rfl rfl) ?_
              refine awps_stp1 rfl rfl (by decide) (stp_alloc 9 rfl zv_api_Term rfl) rfl ?_
              refine awps_store rfl rfl rfl tf_api_Term rfl rfl rfl rfl rfl rfl rfl rfl rfl ?_
              refine awps_stp0 rfl rfl (by decide) (stp_move (.inr rfl) rfl) ?_
              refine awps_nil ?_
              refine thenQ_nil ?_
              refine awp_seq ?_
              refine awp_region ?_
              refine awps_stp0 rfl rfl (by decide) (stp_move (.inl rfl) rfl) ?_
              first | refine awps_stp0 rfl rfl (by decide) (stp_fieldAddr rfl fo_almagestlaw2_Ask_1 rfl) ?_ | refine awps_stp0 rfl rfl (by decide) (stp_fieldAddr_elp rfl fo_almagestlaw2_Ask_1 rfl) ?_
              first | refine awps_stp0 rfl rfl (by decide) (stp_load rfl tf_S_api_Term rfl rfl rfl rfl rfl) ?_ | refine awps_stp0 rfl rfl (by decide) (stp_load_elp1 rfl tf_S_api_Term rfl) ?_ | refine awps_stp0 rfl rfl (by decide) (stp_load_elpn rfl tf_S_api_Term rfl rfl rfl) ?_
              refine awps_stp0 rfl rfl (by decide) (stp_move (.inl rfl) rfl) ?_
              first | refine awps_stp0 rfl rfl (by decide) (stp_indexAddr rfl sl_S_api_Term rfl rfl (by omega) (tmDs_get hb)) ?_ | refine awps_stp0 rfl rfl (by decide) (stp_indexAddr_rowd rfl sl_S_api_Term rfl rfl rfl (by omega) (tmDs_get hb)) ?_ | refine awps_stp0 rfl rfl (by decide) (stp_indexAddr_row rfl sl_S_api_Term rfl rfl rfl (by omega) (tmDs_get hb) (by decide)) ?_
              first | refine awps_stp0 rfl rfl (by decide) (stp_load_all rfl tf_api_Term rfl rfl rfl rfl) ?_ | refine awps_stp0 rfl rfl (by decide) (stp_load rfl tf_api_Term rfl rfl rfl rfl rfl) ?_ | refine awps_stp0 rfl rfl (by decide) (stp_load_elpa rfl tf_api_Term rfl rfl) ?_ | refine awps_stp0 rfl rfl (by decide) (stp_load_elpn rfl tf_api_Term rfl rfl rfl) ?_
              refine awps_call (avs := [_, _]) true rfl rfl rfl (by decide) en_bind_Apply rfl rfl (Apply_ok R.1 hA.w b wb) rfl rfl ?_
              refine awps_stp0 rfl rfl (by decide) (stp_move (.inl rfl) rfl) ?_
              refine awps_stp0 rfl rfl (by decide) (stp_extract rfl rfl rfl) ?_
              refine awps_stp0 rfl rfl (by decide) (stp_extract rfl rfl rfl) ?_
              refine awps_stp1 rfl rfl (by decide) (stp_alloc 11 rfl zv_api_Term rfl) rfl ?_
              refine awps_store rfl rfl rfl tf_api_Term rfl rfl rfl rfl rfl rfl rfl rfl rfl ?_
              refine awps_stp0 rfl rfl (by decide) (stp_move (.inr rfl) rfl) ?_
              refine awps_nil ?_
              refine thenQ_nil ?_
              refine awp_seq ?_
              refine awp_sub (sub_untag hQ) ?_
              refine awp_region ?_
              refine awps_stp0 rfl rfl (by decide) (stp_move (.inl rfl) rfl) ?_
              refine awps_call (avs := [_]) true rfl rfl rfl (by decide) en_almagestlaw3_num rfl rfl (num3_ok _) rfl rfl ?_
              refine awps_stp0 rfl rfl (by decide) (stp_move (.inl rfl) rfl) ?_
              refine awps_call (avs := [_]) true rfl rfl rfl (by decide) en_almagestlaw3_num rfl rfl (num3_ok _) rfl rfl ?_
              refine awps_stp0 rfl rfl (by decide) (stp_binI rfl rfl rfl rfl) ?_
              refine awps_stp0 rfl rfl (by decide) (stp_move (.inl rfl) rfl) ?_
              refine awps_split 115 rfl (fun g115 => ?_) (fun g115 => ?_)
              · try simp only [↓str_beq_t, ↓str_beq_f, decide_eq_true_eq, decide_eq_false_iff_not, Bool.not_eq_true', Bool.not_eq_false', Int.not_lt, Int.not_le, beq_iff_eq, beq_eq_false_iff_ne, bne_iff_ne, bne_eq_false_iff_eq, ne_eq] at g115
                refine awps_gs rfl rfl rfl rfl (by decide) rfl (by decide) ?_
                refine awps_gs rfl rfl rfl rfl (by decide) rfl (by decide) ?_
                refine awps_gs rfl rfl rfl rfl (by decide) rfl (by decide) ?_
                refine awps_gs rfl rfl rfl rfl (by decide) rfl (by decide) ?_
                refine awps_gu rfl rfl rfl (by decide) rfl (by decide) ?_
                refine awps_gu rfl rfl rfl (by decide) rfl (by decide) ?_
                refine awps_gu rfl rfl rfl (by decide) rfl (by decide) ?_
                refine awps_gu rfl rfl rfl (by decide) rfl (by decide) ?_
                refine awps_gs rfl rfl rfl rfl (by decide) rfl (by decide) ?_
                refine awps_stp0 rfl rfl (by decide) (stp_pick rfl rfl rfl) ?_
                refine awps_stp0 rfl rfl (by decide) (stp_move (.inl rfl) rfl) ?_
                refine awps_gs rfl rfl rfl rfl (by decide) rfl (by decide) ?_
                refine awps_gs rfl rfl rfl rfl (by decide) rfl (by decide) ?_
                refine awps_gs rfl rfl rfl rfl (by decide) rfl (by decide) ?_
                refine awps_gs rfl rfl rfl rfl (by decide) rfl (by decide) ?_
                refine awps_stp0 rfl rfl (by decide) (stp_pick rfl rfl rfl) ?_
                refine awps_nil ?_
                refine thenQ_nil ?_
                refine awp_condT rfl ?_
                refine awp_seq ?_
                refine awp_region ?_
                refine awps_stp0 rfl rfl (by decide) (stp_move (.inr rfl) rfl) ?_
                refine awps_nil ?_
                refine thenQ_nil ?_
                refine awp_ret ?_
                refine thenQ_ret (inQ_ret (thenQ_ret (thenQ_ret (inQ_ret (inQ_ret (thenQ_ret (thenQ_ret (inQ_ret (thenQ_ret (?_))))))))))
                -- leaf 0Fg22T1Tg33T2T3F5Tg115T
                refine ret0 (noL hL) (.inl rfl) (resAs_tmp rfl (resAs_nil)) ?_ ?_
                · rfl
                first
                | exact ⟨rfl, rfl⟩
                | (exfalso
                   rcases hA.c1 c3 with ⟨h, h'⟩ | ⟨h, h'⟩ | h | h
                   · exact g77 (by rw [h, h'])
                   · exact g77 (by rw [beq_eq_false_iff_ne.2 h, beq_eq_false_iff_ne.2 h'])
                   · exact g82 h
                   · exact c4 h)
                | exact absurd (hA.c2 c5).2.1 g115
                | (exfalso; rw [(hA.c2 c5).2.2] at g126; cases g126; done)
                | (exfalso; rw [if_pos (hA.c2 c5).1] at c6; exact c6 rfl)
                | (exfalso; have := hA.c3 g135 g140; omega)
                | exact absurd (hA.c4 g164).1 g168
                | (exfalso; rw [(hA.c4 g164).2] at c8; cases c8; done)
                | cases g178
              try simp only [↓str_beq_t, ↓str_beq_f, decide_eq_true_eq, decide_eq_false_iff_not, Bool.not_eq_true', Bool.not_eq_false', Int.not_lt, Int.not_le, beq_iff_eq, beq_eq_false_iff_ne, bne_iff_ne, bne_eq_false_iff_eq, ne_eq] at g115
              refine awps_g0 rfl rfl rfl (by decide) rfl (by decide) (stp_move (.inl rfl) rfl) ?_
              refine awps_g0 rfl rfl rfl (by decide) rfl (by decide) (stp_call (avs := [_]) true rfl en_almagestlaw3_num rfl rfl (num3_ok _) (fun _ => rfl) rfl) ?_
              refine awps_g0 rfl rfl rfl (by decide) rfl (by decide) (stp_binI rfl rfl rfl rfl) ?_
              refine awps_g0 rfl rfl rfl (by decide) rfl (by decide) (stp_move (.inl rfl) rfl) ?_
              refine awps_split 119 rfl (fun g119 => ?_) (fun g119 => ?_)
              · try simp only [↓str_beq_t, ↓str_beq_f, decide_eq_true_eq, decide_eq_false_iff_not, Bool.not_eq_true', Bool.not_eq_false', Int.not_lt, Int.not_le, beq_iff_eq, beq_eq_false_iff_ne, bne_iff_ne, bne_eq_false_iff_eq, ne_eq] at g119
                first | refine awps_g0 rfl rfl rfl (by decide) rfl (by decide) (stp_load_all rfl tf_api_Term rfl rfl rfl rfl) ?_ | refine awps_g0 rfl rfl rfl (by decide) rfl (by decide) (stp_load rfl tf_api_Term rfl rfl rfl rfl rfl) ?_ | refine awps_g0 rfl rfl rfl (by decide) rfl (by decide) (stp_load_elpa rfl tf_api_Term rfl rfl) ?_ | refine awps_g0 rfl rfl rfl (by decide) rfl (by decide) (stp_load_elpn rfl tf_api_Term rfl rfl rfl) ?_
                first | refine awps_g0 rfl rfl rfl (by decide) rfl (by decide) (stp_load_all rfl tf_api_Term rfl rfl rfl rfl) ?_ | refine awps_g0 rfl rfl rfl (by decide) rfl (by decide) (stp_load rfl tf_api_Term rfl rfl rfl rfl rfl) ?_ | refine awps_g0 rfl rfl rfl (by decide) rfl (by decide) (stp_load_elpa rfl tf_api_Term rfl rfl) ?_ | refine awps_g0 rfl rfl rfl (by decide) rfl (by decide) (stp_load_elpn rfl tf_api_Term rfl rfl rfl) ?_
                refine awps_g0 rfl rfl rfl (by decide) rfl (by decide) (stp_call (avs := [_, _]) true rfl en_almagestref0_EqTerm rfl rfl (EqTerm_ok 5 (applyT R.1 a) (applyT R.1 b) (applyT_dle _ _) (applyT_wf hA.w wa) (applyT_wf hA.w wb)) (fun _ => rfl) rfl) ?_
                refine awps_g0 rfl rfl rfl (by decide) rfl (by decide) (stp_not rfl rfl) ?_
                refine awps_g0 rfl rfl rfl (by decide) rfl (by decide) (stp_pick rfl rfl rfl) ?_
                refine awps_stp0 rfl rfl (by decide) (stp_pick rfl rfl rfl) ?_
                refine awps_stp0 rfl rfl (by decide) (stp_move (.inl rfl) rfl) ?_
                refine awps_split 126 rfl (fun g126 => ?_) (fun g126 => ?_)
                · try simp only [↓str_beq_t, ↓str_beq_f, decide_eq_true_eq, decide_eq_false_iff_not, Bool.not_eq_true', Bool.not_eq_false', Int.not_lt, Int.not_le, beq_iff_eq, beq_eq_false_iff_ne, bne_iff_ne, bne_eq_false_iff_eq, ne_eq] at g126
                  refine awps_gs rfl rfl rfl rfl (by decide) rfl (by decide) ?_
                  refine awps_gs rfl rfl rfl rfl (by decide) rfl (by decide) ?_
                  refine awps_gs rfl rfl rfl rfl (by decide) rfl (by decide) ?_
                  refine awps_gs rfl rfl rfl rfl (by decide) rfl (by decide) ?_
                  refine awps_stp0 rfl rfl (by decide) (stp_pick rfl rfl rfl) ?_
                  refine awps_nil ?_
                  refine thenQ_nil ?_
                  refine awp_condT rfl ?_
                  refine awp_seq ?_
                  refine awp_region ?_
                  refine awps_stp0 rfl rfl (by decide) (stp_move (.inr rfl) rfl) ?_
                  refine awps_nil ?_
                  refine thenQ_nil ?_
                  refine awp_ret ?_
                  refine thenQ_ret (inQ_ret (thenQ_ret (thenQ_ret (inQ_ret (inQ_ret (thenQ_ret (thenQ_ret (inQ_ret (thenQ_ret (?_))))))))))
                  -- leaf 0Fg22T1Tg33T2T3F5Tg115Fg119Tg126T
                  refine ret0 (noL hL) (.inl rfl) (resAs_tmp rfl (resAs_nil)) ?_ ?_
                  · rfl
                  first
                  | exact ⟨rfl, rfl⟩
                  | (exfalso
                     rcases hA.c1 c3 with ⟨h, h'⟩ | ⟨h, h'⟩ | h | h
                     · exact g77 (by rw [h, h'])
                     · exact g77 (by rw [beq_eq_false_iff_ne.2 h, beq_eq_false_iff_ne.2 h'])
                     · exact g82 h
                     · exact c4 h)
                  | exact absurd (hA.c2 c5).2.1 g115
                  | (exfalso; rw [(hA.c2 c5).2.2] at g126; cases g126; done)
                  | (exfalso; rw [if_pos (hA.c2 c5).1] at c6; exact c6 rfl)
                  | (exfalso; have := hA.c3 g135 g140; omega)
                  | exact absurd (hA.c4 g164).1 g168
                  | (exfalso; rw [(hA.c4 g164).2] at c8; cases c8; done)
                  | cases g178
                try simp only [↓str_beq_t, ↓str_beq_f, decide_eq_true_eq, decide_eq_false_iff_not, Bool.not_eq_true', Bool.not_eq_false', Int.not_lt, Int.not_le, beq_iff_eq, beq_eq_false_iff_ne, bne_iff_ne, bne_eq_false_iff_eq, ne_eq] at g126
                refine awps_g0 rfl rfl rfl (by decide) rfl (by decide) (stp_move (.inl rfl) rfl) ?_
                refine awps_g0 rfl rfl rfl (by decide) rfl (by decide) (stp_call (avs := [_]) true rfl en_bind_Check rfl rfl (bindCheck_ok R.1 hA.w) (fun _ => rfl) rfl) ?_
                refine awps_g0 rfl rfl rfl (by decide) rfl (by decide) (stp_call (avs := [_]) true rfl en_almagestlaw3_num rfl rfl (num3_ok _) (fun _ => rfl) rfl) ?_
                refine awps_g0 rfl rfl rfl (by decide) rfl (by decide) (stp_binI rfl rfl rfl rfl) ?_
                refine awps_stp0 rfl rfl (by decide) (stp_pick rfl rfl rfl) ?_
                refine awps_nil ?_
                refine thenQ_nil ?_
                refine awp_cond rfl (fun c6 => ?_) (fun c6 => ?_)
                · try simp only [↓str_beq_t, ↓str_beq_f, decide_eq_true_eq, decide_eq_false_iff_not, Bool.not_eq_true', Bool.not_eq_false', Int.not_lt, Int.not_le, beq_iff_eq, beq_eq_false_iff_ne, bne_iff_ne, bne_eq_false_iff_eq, ne_eq] at c6
                  refine awp_seq ?_
                  refine awp_region ?_
                  refine awps_stp0 rfl rfl (by decide) (stp_move (.inr rfl) rfl) ?_
                  refine awps_nil ?_
                  refine thenQ_nil ?_
                  refine awp_ret ?_
                  refine thenQ_ret (inQ_ret (thenQ_ret (thenQ_ret (inQ_ret (inQ_ret (thenQ_ret (thenQ_ret (inQ_ret (thenQ_ret (?_))))))))))
                  -- leaf 0Fg22T1Tg33T2T3F5Tg115Fg119Tg126F6T
                  refine ret0 (noL hL) (.inl rfl) (resAs_tmp rfl (resAs_nil)) ?_ ?_
                  · rfl
                  first
                  | exact ⟨rfl, rfl⟩
                  | (exfalso
                     rcases hA.c1 c3 with ⟨h, h'⟩ | ⟨h, h'⟩ | h | h
                     · exact g77 (by rw [h, h'])
                     · exact g77 (by rw [beq_eq_false_iff_ne.2 h, beq_eq_false_iff_ne.2 h'])
                     · exact g82 h
                     · exact c4 h)
                  | exact absurd (hA.c2 c5).2.1 g115
                  | (exfalso; rw [(hA.c2 c5).2.2] at g126; cases g126; done)
                  | (exfalso; rw [if_pos (hA.c2 c5).1] at c6; exact c6 rfl)
                  | (exfalso; have := hA.c3 g135 g140; omega)
                  | exact absurd (hA.c4 g164).1 g168
                  | (exfalso; rw [(hA.c4 g164).2] at c8; cases c8; done)
                  | cases g178
                try simp only [↓str_beq_t, ↓str_beq_f, decide_eq_true_eq, decide_eq_false_iff_not, Bool.not_eq_true', Bool.not_eq_false', Int.not_lt, Int.not_le, beq_iff_eq, beq_eq_false_iff_ne, bne_iff_ne, bne_eq_false_iff_eq, ne_eq] at c6
                refine awp_skip ?_
                exact thenQ_cut (sub_re (SubT.cons (lk_eq rfl (by first | rfl | simp)) (SubT.cons (lk_eq rfl (by first | rfl | simp)) (SubT.cons (lk_eq rfl (by first | rfl | simp)) (SubT.cons (lk_eq rfl (by first | rfl | simp)) (SubT.cons (lk_eq rfl (by first | rfl | simp)) (SubT.cons (lk_eq rfl (by first | rfl | simp)) (SubT.cons (lk_eq rfl (by first | rfl | simp)) (SubT.nil)))))))) (SubO.cons (ok_eq rfl (by rfl)) (SubO.nil)) rfl rfl (noL' (noL hL) _))
              try simp only [↓str_beq_t, ↓str_beq_f, decide_eq_true_eq, decide_eq_false_iff_not, Bool.not_eq_true', Bool.not_eq_false', Int.not_lt, Int.not_le, beq_iff_eq, beq_eq_false_iff_ne, bne_iff_ne, bne_eq_false_iff_eq, ne_eq] at g119
              refine awps_gs rfl rfl rfl rfl (by decide) rfl (by decide) ?_
              refine awps_gs rfl rfl rfl rfl (by decide) rfl (by decide) ?_
              refine awps_gs rfl rfl rfl rfl (by decide) rfl (by decide) ?_
              refine awps_gs rfl rfl rfl rfl (by decide) rfl (by decide) ?_
              refine awps_g0 rfl rfl rfl (by decide) rfl (by decide) (stp_pick rfl rfl rfl) ?_
              refine awps_stp0 rfl rfl (by decide) (stp_pick rfl rfl rfl) ?_
              refine awps_stp0 rfl rfl (by decide) (stp_move (.inl rfl) rfl) ?_
              refine awps_g0 rfl rfl rfl (by decide) rfl (by decide) (stp_move (.inl rfl) rfl) ?_
              refine awps_g0 rfl rfl rfl (by decide) rfl (by decide) (stp_call (avs := [_]) true rfl en_bind_Check rfl rfl (bindCheck_ok R.1 hA.w) (fun _ => rfl) rfl) ?_
              refine awps_g0 rfl rfl rfl (by decide) rfl (by decide) (stp_call (avs := [_]) true rfl en_almagestlaw3_num rfl rfl (num3_ok _) (fun _ => rfl) rfl) ?_
              refine awps_g0 rfl rfl rfl (by decide) rfl (by decide) (stp_binI rfl rfl rfl rfl) ?_
              refine awps_stp0 rfl rfl (by decide) (stp_pick rfl rfl rfl) ?_
              refine awps_nil ?_
              refine thenQ_nil ?_
              refine awp_cond rfl (fun c6 => ?_) (fun c6 => ?_)
              · try simp only [↓str_beq_t, ↓str_beq_f, decide_eq_true_eq, decide_eq_false_iff_not, Bool.not_eq_true', Bool.not_eq_false', Int.not_lt, Int.not_le, beq_iff_eq, beq_eq_false_iff_ne, bne_iff_ne, bne_eq_false_iff_eq, ne_eq] at c6
                refine awp_seq ?_
                refine awp_region ?_
                refine awps_stp0 rfl rfl (by decide) (stp_move (.inr rfl) rfl) ?_
                refine awps_nil ?_
                refine thenQ_nil ?_
                refine awp_ret ?_
                refine thenQ_ret (inQ_ret (thenQ_ret (thenQ_ret (inQ_ret (inQ_ret (thenQ_ret (thenQ_ret (inQ_ret (thenQ_ret (?_))))))))))
                -- leaf 0Fg22T1Tg33T2T3F5Tg115Fg119F6T
                refine ret0 (noL hL) (.inl rfl) (resAs_tmp rfl (resAs_nil)) ?_ ?_
                · rfl
                first
                | exact ⟨rfl, rfl⟩
                | (exfalso
                   rcases hA.c1 c3 with ⟨h, h'⟩ | ⟨h, h'⟩ | h | h
                   · exact g77 (by rw [h, h'])
                   · exact g77 (by rw [beq_eq_false_iff_ne.2 h, beq_eq_false_iff_ne.2 h'])
                   · exact g82 h
                   · exact c4 h)
                | exact absurd (hA.c2 c5).2.1 g115
                | (exfalso; rw [(hA.c2 c5).2.2] at g126; cases g126; done)
                | (exfalso; rw [if_pos (hA.c2 c5).1] at c6; exact c6 rfl)
                | (exfalso; have := hA.c3 g135 g140; omega)
                | exact absurd (hA.c4 g164).1 g168
                | (exfalso; rw [(hA.c4 g164).2] at c8; cases c8; done)
                | cases g178
              try simp only [↓str_beq_t, ↓str_beq_f, decide_eq_true_eq, decide_eq_false_iff_not, Bool.not_eq_true', Bool.not_eq_false', Int.not_lt, Int.not_le, beq_iff_eq, beq_eq_false_iff_ne, bne_iff_ne, bne_eq_false_iff_eq, ne_eq] at c6
              refine awp_skip ?_
              exact thenQ_cut (sub_re (SubT.cons (lk_eq rfl (by first | rfl | simp)) (SubT.cons (lk_eq rfl (by first | rfl | simp)) (SubT.cons (lk_eq rfl (by first | rfl | simp)) (SubT.cons (lk_eq rfl (by first | rfl | simp)) (SubT.cons (lk_eq rfl (by first | rfl | simp)) (SubT.cons (lk_eq rfl (by first | rfl | simp)) (SubT.cons (lk_eq rfl (by first | rfl | simp)) (SubT.nil)))))))) (SubO.cons (ok_eq rfl (by rfl)) (SubO.nil)) rfl rfl (noL' (noL hL) _))
            try simp only [↓str_beq_t, ↓str_beq_f, decide_eq_true_eq, decide_eq_false_iff_not, Bool.not_eq_true', Bool.not_eq_false', Int.not_lt, Int.not_le, beq_iff_eq, beq_eq_false_iff_ne, bne_iff_ne, bne_eq_false_iff_eq, ne_eq] at c5
            refine awp_skip ?_
            exact thenQ_cut (sub_re (SubT.cons (lk_eq rfl (by first | rfl | simp)) (SubT.cons (lk_eq rfl (by first | rfl | simp)) (SubT.cons (lk_eq rfl (by first | rfl | simp)) (SubT.cons (lk_eq rfl (by first | rfl | simp)) (SubT.cons (lk_eq rfl (by first | rfl | simp)) (SubT.cons (lk_eq rfl (by first | rfl | simp)) (SubT.cons (lk_eq rfl (by first | rfl | simp)) (SubT.nil)))))))) (SubO.cons (ok_eq rfl (by rfl)) (SubO.nil)) rfl rfl (noL' (noL hL) _))
          refine awp_cut ⟨[(1, .ptr 1 0), (3, iv (k : Int)), (4, iv (j : Int)), (5, bdA R.1), (6, iv R.2)], [(1, .box (lift false (a2D ⟨l, T, S⟩)))]⟩ ?_ ?_
          · skip
            refine awp_seq ?_
            refine awp_region ?_
            refine awps_stp0 rfl rfl (by decide) (stp_move (.inl rfl) rfl) ?_
            refine awps_call (avs := [_]) true rfl rfl rfl (by decide) en_almagestlaw3_num rfl rfl (num3_ok _) rfl rfl ?_
            refine awps_stp0 rfl rfl (by decide) (stp_binI rfl rfl rfl rfl) ?_
            refine awps_stp0 rfl rfl (by decide) (stp_move (.inl rfl) rfl) ?_
            refine awps_split 135 rfl (fun g135 => ?_) (fun g135 => ?_)
            · try simp only [↓str_beq_t, ↓str_beq_f, decide_eq_true_eq, decide_eq_false_iff_not, Bool.not_eq_true', Bool.not_eq_false', Int.not_lt, Int.not_le, beq_iff_eq, beq_eq_false_iff_ne, bne_iff_ne, bne_eq_false_iff_eq, ne_eq] at g135
              refine awps_g0 rfl rfl rfl (by decide) rfl (by decide) (stp_move (.inl rfl) rfl) ?_
              refine awps_g0 rfl rfl rfl (by decide) rfl (by decide) (stp_call (avs := [_]) true rfl en_almagestlaw3_num rfl rfl (num3_ok _) (fun _ => rfl) rfl) ?_
              refine awps_g0 rfl rfl rfl (by decide) rfl (by decide) (stp_binI rfl rfl rfl rfl) ?_
              refine awps_stp0 rfl rfl (by decide) (stp_pick rfl rfl rfl) ?_
              refine awps_stp0 rfl rfl (by decide) (stp_move (.inl rfl) rfl) ?_
              refine awps_split 140 rfl (fun g140 => ?_) (fun g140 => ?_)
              · try simp only [↓str_beq_t, ↓str_beq_f, decide_eq_true_eq, decide_eq_false_iff_not, Bool.not_eq_true', Bool.not_eq_false', Int.not_lt, Int.not_le, beq_iff_eq, beq_eq_false_iff_ne, bne_iff_ne, bne_eq_false_iff_eq, ne_eq] at g140
                refine awps_g0 rfl rfl rfl (by decide) rfl (by decide) (stp_move (.inl rfl) rfl) ?_
                first | refine awps_g0 rfl rfl rfl (by decide) rfl (by decide) (stp_len_dat rfl sl_S_api_Bind rfl) ?_ | refine awps_g0 rfl rfl rfl (by decide) rfl (by decide) (stp_len_rowd rfl sl_S_api_Bind rfl rfl) ?_ | refine awps_g0 rfl rfl rfl (by decide) rfl (by decide) (stp_len_nil rfl sl_S_api_Bind rfl) ?_ | refine awps_g0 rfl rfl rfl (by decide) rfl (by decide) (stp_len_vw rfl sl_S_api_Bind rfl) ?_
                refine awps_g0 rfl rfl rfl (by decide) rfl (by decide) (stp_move (.inl rfl) rfl) ?_
                first | refine awps_g0 rfl rfl rfl (by decide) rfl (by decide) (stp_len_dat rfl sl_S_api_Bind rfl) ?_ | refine awps_g0 rfl rfl rfl (by decide) rfl (by decide) (stp_len_rowd rfl sl_S_api_Bind rfl rfl) ?_ | refine awps_g0 rfl rfl rfl (by decide) rfl (by decide) (stp_len_nil rfl sl_S_api_Bind rfl) ?_ | refine awps_g0 rfl rfl rfl (by decide) rfl (by decide) (stp_len_vw rfl sl_S_api_Bind rfl) ?_
                refine awps_g0 rfl rfl rfl (by decide) rfl (by decide) (stp_binI rfl rfl rfl rfl) ?_
                refine awps_stp0 rfl rfl (by decide) (stp_pick rfl rfl rfl) ?_
                refine awps_nil ?_
                refine thenQ_nil ?_
                refine awp_cond rfl (fun c7 => ?_) (fun c7 => ?_)
                · try simp only [↓str_beq_t, ↓str_beq_f, decide_eq_true_eq, decide_eq_false_iff_not, Bool.not_eq_true', Bool.not_eq_false', Int.not_lt, Int.not_le, beq_iff_eq, beq_eq_false_iff_ne, bne_iff_ne, bne_eq_false_iff_eq, ne_eq] at c7
                  refine awp_seq ?_
                  refine awp_region ?_
                  refine awps_stp0 rfl rfl (by decide) (stp_move (.inr rfl) rfl) ?_
                  refine awps_nil ?_
                  refine thenQ_nil ?_
                  refine awp_ret ?_
                  refine thenQ_ret (inQ_ret (thenQ_ret (thenQ_ret (inQ_ret (inQ_ret (thenQ_ret (thenQ_ret (inQ_ret (thenQ_ret (?_))))))))))
                  -- leaf 0Fg22T1Tg33T2T3Fg135Tg140T7T
                  refine ret0 (noL hL) (.inl rfl) (resAs_tmp rfl (resAs_nil)) ?_ ?_
                  · rfl
                  first
                  | exact ⟨rfl, rfl⟩
                  | (exfalso
                     rcases hA.c1 c3 with ⟨h, h'⟩ | ⟨h, h'⟩ | h | h
                     · exact g77 (by rw [h, h'])
                     · exact g77 (by rw [beq_eq_false_iff_ne.2 h, beq_eq_false_iff_ne.2 h'])
                     · exact g82 h
                     · exact c4 h)
                  | exact absurd (hA.c2 c5).2.1 g115
                  | (exfalso; rw [(hA.c2 c5).2.2] at g126; cases g126; done)
                  | (exfalso; rw [if_pos (hA.c2 c5).1] at c6; exact c6 rfl)
                  | (exfalso; have := hA.c3 g135 g140; omega)
                  | exact absurd (hA.c4 g164).1 g168
                  | (exfalso; rw [(hA.c4 g164).2] at c8; cases c8; done)
                  | cases g178
                try simp only [↓str_beq_t, ↓str_beq_f, decide_eq_true_eq, decide_eq_false_iff_not, Bool.not_eq_true', Bool.not_eq_false', Int.not_lt, Int.not_le, beq_iff_eq, beq_eq_false_iff_ne, bne_iff_ne, bne_eq_false_iff_eq, ne_eq] at c7
                refine awp_skip ?_
                exact thenQ_cut (sub_re (SubT.cons (lk_eq rfl (by first | rfl | simp)) (SubT.cons (lk_eq rfl (by first | rfl | simp)) (SubT.cons (lk_eq rfl (by first | rfl | simp)) (SubT.cons (lk_eq rfl (by first | rfl | simp)) (SubT.cons (lk_eq rfl (by first | rfl | simp)) (SubT.nil)))))) (SubO.cons (ok_eq rfl (by rfl)) (SubO.nil)) rfl rfl (noL' (noL hL) _))
              try simp only [↓str_beq_t, ↓str_beq_f, decide_eq_true_eq, decide_eq_false_iff_not, Bool.not_eq_true', Bool.not_eq_false', Int.not_lt, Int.not_le, beq_iff_eq, beq_eq_false_iff_ne, bne_iff_ne, bne_eq_false_iff_eq, ne_eq] at g140
              refine awps_gs rfl rfl rfl rfl (by decide) rfl (by decide) ?_
              refine awps_gs rfl rfl rfl rfl (by decide) rfl (by decide) ?_
              refine awps_gs rfl rfl rfl rfl (by decide) rfl (by decide) ?_
              refine awps_gs rfl rfl rfl rfl (by decide) rfl (by decide) ?_
              refine awps_gs rfl rfl rfl rfl (by decide) rfl (by decide) ?_
              refine awps_stp0 rfl rfl (by decide) (stp_pick rfl rfl rfl) ?_
              refine awps_nil ?_
              refine thenQ_nil ?_
              refine awp_condF rfl ?_
              refine awp_skip ?_
              exact thenQ_cut (sub_re (SubT.cons (lk_eq rfl (by first | rfl | simp)) (SubT.cons (lk_eq rfl (by first | rfl | simp)) (SubT.cons (lk_eq rfl (by first | rfl | simp)) (SubT.cons (lk_eq rfl (by first | rfl | simp)) (SubT.cons (lk_eq rfl (by first | rfl | simp)) (SubT.nil)))))) (SubO.cons (ok_eq rfl (by rfl)) (SubO.nil)) rfl rfl (noL' (noL hL) _))
            try simp only [↓str_beq_t, ↓str_beq_f, decide_eq_true_eq, decide_eq_false_iff_not, Bool.not_eq_true', Bool.not_eq_false', Int.not_lt, Int.not_le, beq_iff_eq, beq_eq_false_iff_ne, bne_iff_ne, bne_eq_false_iff_eq, ne_eq] at g135
            refine awps_gs rfl rfl rfl rfl (by decide) rfl (by decide) ?_
            refine awps_gs rfl rfl rfl rfl (by decide) rfl (by decide) ?_
            refine awps_gs rfl rfl rfl rfl (by decide) rfl (by decide) ?_
            refine awps_stp0 rfl rfl (by decide) (stp_pick rfl rfl rfl) ?_
            refine awps_stp0 rfl rfl (by decide) (stp_move (.inl rfl) rfl) ?_
            refine awps_gs rfl rfl rfl rfl (by decide) rfl (by decide) ?_
            refine awps_gs rfl rfl rfl rfl (by decide) rfl (by decide) ?_
            refine awps_gs rfl rfl rfl rfl (by decide) rfl (by decide) ?_
            refine awps_gs rfl rfl rfl rfl (by decide) rfl (by decide) ?_
            refine awps_gs rfl rfl rfl rfl (by decide) rfl (by decide) ?_
            refine awps_stp0 rfl rfl (by decide) (stp_pick rfl rfl rfl) ?_
            refine awps_nil ?_
            refine thenQ_nil ?_
            refine awp_condF rfl ?_
            refine awp_skip ?_
            exact thenQ_cut (sub_re (SubT.cons (lk_eq rfl (by first | rfl | simp)) (SubT.cons (lk_eq rfl (by first | rfl | simp)) (SubT.cons (lk_eq rfl (by first | rfl | simp)) (SubT.cons (lk_eq rfl (by first | rfl | simp)) (SubT.cons (lk_eq rfl (by first | rfl | simp)) (SubT.nil)))))) (SubO.cons (ok_eq rfl (by rfl)) (SubO.nil)) rfl rfl (noL' (noL hL) _))
          refine awp_seq ?_
          refine awp_drawG 15 mixed rfl rfl rfl rfl ?_
          first | refine MGo_c0 rfl (by decide) (.run rfl (stp_fieldAddr rfl fo_almagestlaw2_Ask_1 rfl)) ?_ | refine MGo_c0 rfl (by decide) (.run rfl (stp_fieldAddr_elp rfl fo_almagestlaw2_Ask_1 rfl)) ?_
          first | refine MGo_c0 rfl (by decide) (.run rfl (stp_load rfl tf_S_api_Term rfl rfl rfl rfl rfl)) ?_ | refine MGo_c0 rfl (by decide) (.run rfl (stp_load_elp1 rfl tf_S_api_Term rfl)) ?_ | refine MGo_c0 rfl (by decide) (.run rfl (stp_load_elpn rfl tf_S_api_Term rfl rfl rfl)) ?_
          refine MGo_c0 rfl (by decide) (.run rfl (stp_move (.inl rfl) rfl)) ?_
          first | refine MGo_c0 rfl (by decide) (.run rfl (stp_indexAddr rfl sl_S_api_Term rfl rfl (by omega) (tmDs_get ha))) ?_ | refine MGo_c0 rfl (by decide) (.run rfl (stp_indexAddr_rowd rfl sl_S_api_Term rfl rfl rfl (by omega) (tmDs_get ha))) ?_ | refine MGo_c0 rfl (by decide) (.run rfl (stp_indexAddr_row rfl sl_S_api_Term rfl rfl rfl (by omega) (tmDs_get ha) (by decide))) ?_
          first | refine MGo_c0 rfl (by decide) (.run rfl (stp_load_all rfl tf_api_Term rfl rfl rfl rfl)) ?_ | refine MGo_c0 rfl (by decide) (.run rfl (stp_load rfl tf_api_Term rfl rfl rfl rfl rfl)) ?_ | refine MGo_c0 rfl (by decide) (.run rfl (stp_load_elpa rfl tf_api_Term rfl rfl)) ?_ | refine MGo_c0 rfl (by decide) (.run rfl (stp_load_elpn rfl tf_api_Term rfl rfl rfl)) ?_
          first | refine MGo_c0 rfl (by decide) (.run rfl (stp_fieldAddr rfl fo_almagestlaw2_Ask_1 rfl)) ?_ | refine MGo_c0 rfl (by decide) (.run rfl (stp_fieldAddr_elp rfl fo_almagestlaw2_Ask_1 rfl)) ?_
          first | refine MGo_c0 rfl (by decide) (.run rfl (stp_load rfl tf_S_api_Term rfl rfl rfl rfl rfl)) ?_ | refine MGo_c0 rfl (by decide) (.run rfl (stp_load_elp1 rfl tf_S_api_Term rfl)) ?_ | refine MGo_c0 rfl (by decide) (.run rfl (stp_load_elpn rfl tf_S_api_Term rfl rfl rfl)) ?_
          refine MGo_c0 rfl (by decide) (.run rfl (stp_move (.inl rfl) rfl)) ?_
          first | refine MGo_c0 rfl (by decide) (.run rfl (stp_indexAddr rfl sl_S_api_Term rfl rfl (by omega) (tmDs_get hb))) ?_ | refine MGo_c0 rfl (by decide) (.run rfl (stp_indexAddr_rowd rfl sl_S_api_Term rfl rfl rfl (by omega) (tmDs_get hb))) ?_ | refine MGo_c0 rfl (by decide) (.run rfl (stp_indexAddr_row rfl sl_S_api_Term rfl rfl rfl (by omega) (tmDs_get hb) (by decide))) ?_
          first | refine MGo_c0 rfl (by decide) (.run rfl (stp_load_all rfl tf_api_Term rfl rfl rfl rfl)) ?_ | refine MGo_c0 rfl (by decide) (.run rfl (stp_load rfl tf_api_Term rfl rfl rfl rfl rfl)) ?_ | refine MGo_c0 rfl (by decide) (.run rfl (stp_load_elpa rfl tf_api_Term rfl rfl)) ?_ | refine MGo_c0 rfl (by decide) (.run rfl (stp_load_elpn rfl tf_api_Term rfl rfl rfl)) ?_
          refine MGo_c0 rfl (by decide) (.run rfl (stp_call (avs := [_, _, _]) false rfl en_unify_Match rfl rfl (Match0_ok a b wa wb) (fun _ => rfl) rfl)) ?_
          refine MGo_c0 rfl (by decide) (.run rfl (stp_move (.inl rfl) rfl)) ?_
          refine MGo_c0 rfl (by decide) (.run rfl (stp_extract rfl rfl rfl)) ?_
          refine MGo_c0 rfl (by decide) (.run rfl (stp_extract rfl rfl rfl)) ?_
          refine MGo_c0 rfl (by decide) (.run rfl (stp_move (.inr rfl) rfl)) ?_
          refine MGo_nil ⟨rfl, rfl, ?_⟩
          refine awps_stp0 rfl rfl (by decide) (stp_move (.inr rfl) rfl) ?_
          refine awps_nil ?_
          refine thenQ_nil ?_
          refine awp_seq ?_
          refine awp_region ?_
          refine awps_stp0 rfl rfl (by decide) (stp_move (.inl rfl) rfl) ?_
          refine awps_call (avs := [_]) true rfl rfl rfl (by decide) en_almagestlaw3_num rfl rfl (num3_ok _) rfl rfl ?_
          refine awps_stp0 rfl rfl (by decide) (stp_binI rfl rfl rfl rfl) ?_
          refine awps_stp0 rfl rfl (by decide) (stp_move (.inl rfl) rfl) ?_
          refine awps_split 164 rfl (fun g164 => ?_) (fun g164 => ?_)
          · try simp only [↓str_beq_t, ↓str_beq_f, decide_eq_true_eq, decide_eq_false_iff_not, Bool.not_eq_true', Bool.not_eq_false', Int.not_lt, Int.not_le, beq_iff_eq, beq_eq_false_iff_ne, bne_iff_ne, bne_eq_false_iff_eq, ne_eq] at g164
            refine awps_g0 rfl rfl rfl (by decide) rfl (by decide) (stp_move (.inl rfl) rfl) ?_
            refine awps_g0 rfl rfl rfl (by decide) rfl (by decide) (stp_call (avs := [_]) true rfl en_almagestlaw3_num rfl rfl (num3_ok _) (fun _ => rfl) rfl) ?_
            refine awps_g0 rfl rfl rfl (by decide) rfl (by decide) (stp_binI rfl rfl rfl rfl) ?_
            refine awps_g0 rfl rfl rfl (by decide) rfl (by decide) (stp_move (.inl rfl) rfl) ?_
            refine awps_split 168 rfl (fun g168 => ?_) (fun g168 => ?_)
            · try simp only [↓str_beq_t, ↓str_beq_f, decide_eq_true_eq, decide_eq_false_iff_not, Bool.not_eq_true', Bool.not_eq_false', Int.not_lt, Int.not_le, beq_iff_eq, beq_eq_false_iff_ne, bne_iff_ne, bne_eq_false_iff_eq, ne_eq] at g168
              refine awps_gs rfl rfl rfl rfl (by decide) rfl (by decide) ?_
              refine awps_gs rfl rfl rfl rfl (by decide) rfl (by decide) ?_
              refine awps_gs rfl rfl rfl rfl (by decide) rfl (by decide) ?_
              refine awps_gs rfl rfl rfl rfl (by decide) rfl (by decide) ?_
              refine awps_g0 rfl rfl rfl (by decide) rfl (by decide) (stp_pick rfl rfl rfl) ?_
              refine awps_stp0 rfl rfl (by decide) (stp_pick rfl rfl rfl) ?_
              refine awps_nil ?_
              refine thenQ_nil ?_
              refine awp_condT rfl ?_
              refine awp_seq ?_
              refine awp_region ?_
              refine awps_stp0 rfl rfl (by decide) (stp_move (.inr rfl) rfl) ?_
              refine awps_nil ?_
              refine thenQ_nil ?_
              refine awp_ret ?_
              refine inQ_ret (thenQ_ret (thenQ_ret (inQ_ret (inQ_ret (thenQ_ret (thenQ_ret (inQ_ret (thenQ_ret (?_)))))))))
              -- leaf 0Fg22T1Tg33T2T3Fg164Tg168T
              refine ret0 (noL hL) (.inl rfl) (resAs_tmp rfl (resAs_nil)) ?_ ?_
              · rfl
              first
              | exact ⟨rfl, rfl⟩
              | (exfalso
                 rcases hA.c1 c3 with ⟨h, h'⟩ | ⟨h, h'⟩ | h | h
                 · exact g77 (by rw [h, h'])
                 · exact g77 (by rw [beq_eq_false_iff_ne.2 h, beq_eq_false_iff_ne.2 h'])
                 · exact g82 h
                 · exact c4 h)
              | exact absurd (hA.c2 c5).2.1 g115
              | (exfalso; rw [(hA.c2 c5).2.2] at g126; cases g126; done)
              | (exfalso; rw [if_pos (hA.c2 c5).1] at c6; exact c6 rfl)
              | (exfalso; have := hA.c3 g135 g140; omega)
              | exact absurd (hA.c4 g164).1 g168
              | (exfalso; rw [(hA.c4 g164).2] at c8; cases c8; done)
              | cases g178
            try simp only [↓str_beq_t, ↓str_beq_f, decide_eq_true_eq, decide_eq_false_iff_not, Bool.not_eq_true', Bool.not_eq_false', Int.not_lt, Int.not_le, beq_iff_eq, beq_eq_false_iff_ne, bne_iff_ne, bne_eq_false_iff_eq, ne_eq] at g168
            refine awps_g0 rfl rfl rfl (by decide) rfl (by decide) (stp_move (.inl rfl) rfl) ?_
            refine awps_g0 rfl rfl rfl (by decide) rfl (by decide) (stp_move (.inl rfl) rfl) ?_
            refine awps_g0 rfl rfl rfl (by decide) rfl (by decide) (stp_call (avs := [_, _]) true rfl en_almagestref0_EqBinds rfl rfl (EqBinds_ok (matchR [] a b).1 R.1 (fun x hx => (hA.mw x hx).2) (fun x hx => (hA.mw x hx).1) hA.w (by have := hA.mlen; omega) (by have := hA.len; omega)) (fun _ => rfl) rfl) ?_
            refine awps_g0 rfl rfl rfl (by decide) rfl (by decide) (stp_not rfl rfl) ?_
            refine awps_g0 rfl rfl rfl (by decide) rfl (by decide) (stp_pick rfl rfl rfl) ?_
            refine awps_stp0 rfl rfl (by decide) (stp_pick rfl rfl rfl) ?_
            refine awps_nil ?_
            refine thenQ_nil ?_
            refine awp_cond rfl (fun c8 => ?_) (fun c8 => ?_)
            · try simp only [↓str_beq_t, ↓str_beq_f, decide_eq_true_eq, decide_eq_false_iff_not, Bool.not_eq_true', Bool.not_eq_false', Int.not_lt, Int.not_le, beq_iff_eq, beq_eq_false_iff_ne, bne_iff_ne, bne_eq_false_iff_eq, ne_eq] at c8
              refine awp_seq ?_
              refine awp_region ?_
              refine awps_stp0 rfl rfl (by decide) (stp_move (.inr rfl) rfl) ?_
              refine awps_nil ?_
              refine thenQ_nil ?_
              refine awp_ret ?_
              refine inQ_ret (thenQ_ret (thenQ_ret (inQ_ret (inQ_ret (thenQ_ret (thenQ_ret (inQ_ret (thenQ_ret (?_)))))))))
              -- leaf 0Fg22T1Tg33T2T3Fg164Tg168F8T
              refine ret0 (noL hL) (.inl rfl) (resAs_tmp rfl (resAs_nil)) ?_ ?_
              · rfl
              first
              | exact ⟨rfl, rfl⟩
              | (exfalso
                 rcases hA.c1 c3 with ⟨h, h'⟩ | ⟨h, h'⟩ | h | h
                 · exact g77 (by rw [h, h'])
                 · exact g77 (by rw [beq_eq_false_iff_ne.2 h, beq_eq_false_iff_ne.2 h'])
                 · exact g82 h
                 · exact c4 h)
              | exact absurd (hA.c2 c5).2.1 g115
              | (exfalso; rw [(hA.c2 c5).2.2] at g126; cases g126; done)
              | (exfalso; rw [if_pos (hA.c2 c5).1] at c6; exact c6 rfl)
              | (exfalso; have := hA.c3 g135 g140; omega)
              | exact absurd (hA.c4 g164).1 g168
              | (exfalso; rw [(hA.c4 g164).2] at c8; cases c8; done)
              | cases g178
            try simp only [↓str_beq_t, ↓str_beq_f, decide_eq_true_eq, decide_eq_false_iff_not, Bool.not_eq_true', Bool.not_eq_false', Int.not_lt, Int.not_le, beq_iff_eq, beq_eq_false_iff_ne, bne_iff_ne, bne_eq_false_iff_eq, ne_eq] at c8
            refine awp_skip ?_
            refine inQ_nil ?_
            refine thenQ_nil ?_
            refine awp_region ?_
            refine awps_stp0 rfl rfl (by decide) (stp_move (.inl rfl) rfl) ?_
            refine awps_stp0 rfl rfl (by decide) (stp_add rfl rfl rfl (by omega)) ?_
            refine awps_stp0 rfl rfl (by decide) (stp_move (.inr rfl) rfl) ?_
            refine awps_nil ?_
            refine thenQ_nil ?_
            refine ⟨?_, ?_, ?_⟩
            · skip
              omega
            · skip
              trivial
            exact sub_re (SubT.cons (lk_eq rfl (by first | rfl | simp)) (SubT.cons (lk_eq rfl (by first | rfl | simp)) (SubT.cons (lk_eq rfl (by first | rfl | simp)) (SubT.nil)))) (SubO.cons (ok_eq rfl (by rfl)) (SubO.nil)) rfl rfl (noL' (noL hL) _)
          try simp only [↓str_beq_t, ↓str_beq_f, decide_eq_true_eq, decide_eq_false_iff_not, Bool.not_eq_true', Bool.not_eq_false', Int.not_lt, Int.not_le, beq_iff_eq, beq_eq_false_iff_ne, bne_iff_ne, bne_eq_false_iff_eq, ne_eq] at g164
          refine awps_gs rfl rfl rfl rfl (by decide) rfl (by decide) ?_
          refine awps_gs rfl rfl rfl rfl (by decide) rfl (by decide) ?_
          refine awps_gs rfl rfl rfl rfl (by decide) rfl (by decide) ?_
          refine awps_gs rfl rfl rfl rfl (by decide) rfl (by decide) ?_
          refine awps_gu rfl rfl rfl (by decide) rfl (by decide) ?_
          refine awps_gu rfl rfl rfl (by decide) rfl (by decide) ?_
          refine awps_gu rfl rfl rfl (by decide) rfl (by decide) ?_
          refine awps_gu rfl rfl rfl (by decide) rfl (by decide) ?_
          refine awps_gs rfl rfl rfl rfl (by decide) rfl (by decide) ?_
          refine awps_stp0 rfl rfl (by decide) (stp_pick rfl rfl rfl) ?_
          refine awps_nil ?_
          refine thenQ_nil ?_
          refine awp_condF rfl ?_
          refine awp_skip ?_
          refine inQ_nil ?_
          refine thenQ_nil ?_
          refine awp_region ?_
          refine awps_stp0 rfl rfl (by decide) (stp_move (.inl rfl) rfl) ?_
          refine awps_stp0 rfl rfl (by decide) (stp_add rfl rfl rfl (by omega)) ?_
          refine awps_stp0 rfl rfl (by decide) (stp_move (.inr rfl) rfl) ?_
          refine awps_nil ?_
          refine thenQ_nil ?_
          refine ⟨?_, ?_, ?_⟩
          · skip
            omega
          · skip
            trivial
          exact sub_re (SubT.cons (lk_eq rfl (by first | rfl | simp)) (SubT.cons (lk_eq rfl (by first | rfl | simp)) (SubT.cons (lk_eq rfl (by first | rfl | simp)) (SubT.nil)))) (SubO.cons (ok_eq rfl (by rfl)) (SubO.nil)) rfl rfl (noL' (noL hL) _)
        try simp only [↓str_beq_t, ↓str_beq_f, decide_eq_true_eq, decide_eq_false_iff_not, Bool.not_eq_true', Bool.not_eq_false', Int.not_lt, Int.not_le, beq_iff_eq, beq_eq_false_iff_ne, bne_iff_ne, bne_eq_false_iff_eq, ne_eq] at c2
        refine awp_exit ?_
        refine thenQ_exit (thenQ_exit (inQ_hit ?_))
        refine inQ_nil ?_
        refine thenQ_nil ?_
        refine awp_region ?_
        refine awps_stp0 rfl rfl (by decide) (stp_move (.inl rfl) rfl) ?_
        refine awps_stp0 rfl rfl (by decide) (stp_add rfl rfl rfl (by omega)) ?_
        refine awps_stp0 rfl rfl (by decide) (stp_move (.inr rfl) rfl) ?_
        refine awps_nil ?_
        refine thenQ_nil ?_
        refine ⟨?_, ?_, ?_⟩
        · skip
          omega
        · skip
          trivial
        exact sub_re (SubT.cons (lk_eq rfl (by first | rfl | simp)) (SubT.cons (lk_eq rfl (by first | rfl | simp)) (SubT.nil))) (SubO.cons (ok_eq rfl (by rfl)) (SubO.nil)) rfl rfl (noL' (noL hL) _)
      try simp only [↓str_beq_t, ↓str_beq_f, decide_eq_true_eq, decide_eq_false_iff_not, Bool.not_eq_true', Bool.not_eq_false', Int.not_lt, Int.not_le, beq_iff_eq, beq_eq_false_iff_ne, bne_iff_ne, bne_eq_false_iff_eq, ne_eq] at g33
      refine awps_gs rfl rfl rfl rfl (by decide) rfl (by decide) ?_
      refine awps_gs rfl rfl rfl rfl (by decide) rfl (by decide) ?_
      refine awps_stp0 rfl rfl (by decide) (stp_pick rfl rfl rfl) ?_
      refine awps_nil ?_
      refine thenQ_nil ?_
      refine awp_condF rfl ?_
      refine awp_exit ?_
      refine thenQ_exit (thenQ_exit (inQ_hit ?_))
      refine inQ_nil ?_
      refine thenQ_nil ?_
      refine awp_region ?_
      refine awps_stp0 rfl rfl (by decide) (stp_move (.inl rfl) rfl) ?_
      refine awps_stp0 rfl rfl (by decide) (stp_add rfl rfl rfl (by omega)) ?_
      refine awps_stp0 rfl rfl (by decide) (stp_move (.inr rfl) rfl) ?_
      refine awps_nil ?_
      refine thenQ_nil ?_
      refine ⟨?_, ?_, ?_⟩
      · skip
        omega
      · skip
        trivial
      exact sub_re (SubT.cons (lk_eq rfl (by first | rfl | simp)) (SubT.cons (lk_eq rfl (by first | rfl | simp)) (SubT.nil))) (SubO.cons (ok_eq rfl (by rfl)) (SubO.nil)) rfl rfl (noL' (noL hL) _)
    try simp only [↓str_beq_t, ↓str_beq_f, decide_eq_true_eq, decide_eq_false_iff_not, Bool.not_eq_true', Bool.not_eq_false', Int.not_lt, Int.not_le, beq_iff_eq, beq_eq_false_iff_ne, bne_iff_ne, bne_eq_false_iff_eq, ne_eq] at c1
    refine awp_exit ?_
    refine thenQ_exit (thenQ_exit (inQ_hit ?_))
    refine thenQ_nil ?_
    refine awp_seq ?_
    refine awp_region ?_
    refine awps_stp0 rfl rfl (by decide) (stp_build rfl zv_almagestlaw2_Ask rfl pl_almagestlaw2_Ask rfl rfl) ?_
    refine awps_call (avs := [_]) true rfl rfl rfl (by decide) en_almagestlaw2_Heavy rfl rfl (heavy0_ok) rfl rfl ?_
    refine awps_stp0 rfl rfl (by decide) (stp_not rfl rfl) ?_
    refine awps_stp0 rfl rfl (by decide) (stp_move (.inl rfl) rfl) ?_
    refine awps_split 178 rfl (fun g178 => ?_) (fun g178 => ?_)
    · try simp only [↓str_beq_t, ↓str_beq_f, decide_eq_true_eq, decide_eq_false_iff_not, Bool.not_eq_true', Bool.not_eq_false', Int.not_lt, Int.not_le, beq_iff_eq, beq_eq_false_iff_ne, bne_iff_ne, bne_eq_false_iff_eq, ne_eq] at g178
      refine awps_g0 rfl rfl rfl (by decide) rfl (by decide) (stp_call (avs := []) true rfl en_almagestlaw3_wakes rfl rfl (wakes3_ok) (fun _ => rfl) rfl) ?_
      refine awps_stp0 rfl rfl (by decide) (stp_pick rfl rfl rfl) ?_
      refine awps_stp0 rfl rfl (by decide) (stp_move (.inr rfl) rfl) ?_
      refine awps_nil ?_
      refine thenQ_nil ?_
      refine awp_ret ?_
      -- leaf 0Fg22T1Fg178T
      refine ret0 (noL hL) (.inl rfl) (resAs_tmp rfl (resAs_nil)) ?_ ?_
      · rfl
      first
      | exact ⟨rfl, rfl⟩
      | (exfalso
         rcases hA.c1 c3 with ⟨h, h'⟩ | ⟨h, h'⟩ | h | h
         · exact g77 (by rw [h, h'])
         · exact g77 (by rw [beq_eq_false_iff_ne.2 h, beq_eq_false_iff_ne.2 h'])
         · exact g82 h
         · exact c4 h)
      | exact absurd (hA.c2 c5).2.1 g115
      | (exfalso; rw [(hA.c2 c5).2.2] at g126; cases g126; done)
      | (exfalso; rw [if_pos (hA.c2 c5).1] at c6; exact c6 rfl)
      | (exfalso; have := hA.c3 g135 g140; omega)
      | exact absurd (hA.c4 g164).1 g168
      | (exfalso; rw [(hA.c4 g164).2] at c8; cases c8; done)
      | cases g178
    try simp only [↓str_beq_t, ↓str_beq_f, decide_eq_true_eq, decide_eq_false_iff_not, Bool.not_eq_true', Bool.not_eq_false', Int.not_lt, Int.not_le, beq_iff_eq, beq_eq_false_iff_ne, bne_iff_ne, bne_eq_false_iff_eq, ne_eq] at g178
    refine awps_gs rfl rfl rfl rfl (by decide) rfl (by decide) ?_
    refine awps_stp0 rfl rfl (by decide) (stp_pick rfl rfl rfl) ?_
    refine awps_stp0 rfl rfl (by decide) (stp_move (.inr rfl) rfl) ?_
    refine awps_nil ?_
    refine thenQ_nil ?_
    refine awp_ret ?_
    -- leaf 0Fg22T1Fg178F
    refine ret0 (noL hL) (.inl rfl) (resAs_tmp rfl (resAs_nil)) ?_ ?_
    · rfl
    first
    | exact ⟨rfl, rfl⟩
    | (exfalso
       rcases hA.c1 c3 with ⟨h, h'⟩ | ⟨h, h'⟩ | h | h
       · exact g77 (by rw [h, h'])
       · exact g77 (by rw [beq_eq_false_iff_ne.2 h, beq_eq_false_iff_ne.2 h'])
       · exact g82 h
       · exact c4 h)
    | exact absurd (hA.c2 c5).2.1 g115
    | (exfalso; rw [(hA.c2 c5).2.2] at g126; cases g126; done)
    | (exfalso; rw [if_pos (hA.c2 c5).1] at c6; exact c6 rfl)
    | (exfalso; have := hA.c3 g135 g140; omega)
    | exact absurd (hA.c4 g164).1 g168
    | (exfalso; rw [(hA.c4 g164).2] at c8; cases c8; done)
    | cases g178
  try simp only [↓str_beq_t, ↓str_beq_f, decide_eq_true_eq, decide_eq_false_iff_not, Bool.not_eq_true', Bool.not_eq_false', Int.not_lt, Int.not_le, beq_iff_eq, beq_eq_false_iff_ne, bne_iff_ne, bne_eq_false_iff_eq, ne_eq] at g22
  refine awps_gs rfl rfl rfl rfl (by decide) rfl (by decide) ?_
  refine awps_gs rfl rfl rfl rfl (by decide) rfl (by decide) ?_
  refine awps_stp0 rfl rfl (by decide) (stp_pick rfl rfl rfl) ?_
  refine awps_nil ?_
  refine thenQ_nil ?_
  refine awp_condF rfl ?_
  refine awp_exit ?_
  refine thenQ_exit (thenQ_exit (inQ_hit ?_))
  refine thenQ_nil ?_
  refine awp_seq ?_
  refine awp_region ?_
  refine awps_stp0 rfl rfl (by decide) (stp_build rfl zv_almagestlaw2_Ask rfl pl_almagestlaw2_Ask rfl rfl) ?_
  refine awps_call (avs := [_]) true rfl rfl rfl (by decide) en_almagestlaw2_Heavy rfl rfl (heavy0_ok) rfl rfl ?_
  refine awps_stp0 rfl rfl (by decide) (stp_not rfl rfl) ?_
  refine awps_stp0 rfl rfl (by decide) (stp_move (.inl rfl) rfl) ?_
  refine awps_split 178 rfl (fun g178 => ?_) (fun g178 => ?_)
  · try simp only [↓str_beq_t, ↓str_beq_f, decide_eq_true_eq, decide_eq_false_iff_not, Bool.not_eq_true', Bool.not_eq_false', Int.not_lt, Int.not_le, beq_iff_eq, beq_eq_false_iff_ne, bne_iff_ne, bne_eq_false_iff_eq, ne_eq] at g178
    refine awps_g0 rfl rfl rfl (by decide) rfl (by decide) (stp_call (avs := []) true rfl en_almagestlaw3_wakes rfl rfl (wakes3_ok) (fun _ => rfl) rfl) ?_
    refine awps_stp0 rfl rfl (by decide) (stp_pick rfl rfl rfl) ?_
    refine awps_stp0 rfl rfl (by decide) (stp_move (.inr rfl) rfl) ?_
    refine awps_nil ?_
    refine thenQ_nil ?_
    refine awp_ret ?_
    -- leaf 0Fg22Fg178T
    refine ret0 (noL hL) (.inl rfl) (resAs_tmp rfl (resAs_nil)) ?_ ?_
    · rfl
    first
    | exact ⟨rfl, rfl⟩
    | (exfalso
       rcases hA.c1 c3 with ⟨h, h'⟩ | ⟨h, h'⟩ | h | h
       · exact g77 (by rw [h, h'])
       · exact g77 (by rw [beq_eq_false_iff_ne.2 h, beq_eq_false_iff_ne.2 h'])
       · exact g82 h
       · exact c4 h)
    | exact absurd (hA.c2 c5).2.1 g115
    | (exfalso; rw [(hA.c2 c5).2.2] at g126; cases g126; done)
    | (exfalso; rw [if_pos (hA.c2 c5).1] at c6; exact c6 rfl)
    | (exfalso; have := hA.c3 g135 g140; omega)
    | exact absurd (hA.c4 g164).1 g168
    | (exfalso; rw [(hA.c4 g164).2] at c8; cases c8; done)
    | cases g178
  try simp only [↓str_beq_t, ↓str_beq_f, decide_eq_true_eq, decide_eq_false_iff_not, Bool.not_eq_true', Bool.not_eq_false', Int.not_lt, Int.not_le, beq_iff_eq, beq_eq_false_iff_ne, bne_iff_ne, bne_eq_false_iff_eq, ne_eq] at g178
  refine awps_gs rfl rfl rfl rfl (by decide) rfl (by decide) ?_
  refine awps_stp0 rfl rfl (by decide) (stp_pick rfl rfl rfl) ?_
  refine awps_stp0 rfl rfl (by decide) (stp_move (.inr rfl) rfl) ?_
  refine awps_nil ?_
  refine thenQ_nil ?_
  refine awp_ret ?_
  -- leaf 0Fg22Fg178F
  refine ret0 (noL hL) (.inl rfl) (resAs_tmp rfl (resAs_nil)) ?_ ?_
  · rfl
  first
  | exact ⟨rfl, rfl⟩
  | (exfalso
     rcases hA.c1 c3 with ⟨h, h'⟩ | ⟨h, h'⟩ | h | h
     · exact g77 (by rw [h, h'])
     · exact g77 (by rw [beq_eq_false_iff_ne.2 h, beq_eq_false_iff_ne.2 h'])
     · exact g82 h
     · exact c4 h)
  | exact absurd (hA.c2 c5).2.1 g115
  | (exfalso; rw [(hA.c2 c5).2.2] at g126; cases g126; done)
  | (exfalso; rw [if_pos (hA.c2 c5).1] at c6; exact c6 rfl)
  | (exfalso; have := hA.c3 g135 g140; omega)
  | exact absurd (hA.c4 g164).1 g168
  | (exfalso; rw [(hA.c4 g164).2] at c8; cases c8; done)
  | cases g178
end Go.Proofs.Ytdecgkhdbfgldaa
