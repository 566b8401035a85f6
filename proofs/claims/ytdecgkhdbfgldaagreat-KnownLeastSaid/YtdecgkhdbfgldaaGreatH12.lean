/- Part 12 of the proof: Lb, Lc. -/
import Derived.Test.YtdecgkhdbfgldaaGreatH11
set_option linter.unusedVariables false
set_option linter.unusedSimpArgs false
set_option maxRecDepth 8000
namespace Go.Proofs.YtdecgkhdbfgldaaGreat
open Go Go.Maps
theorem All2_ok (cs : List Cl) (hcl : cs.length ≤ 10000000) (hw : ∀ c ∈ cs, c.wf) (hB : cs.all okC = true → ∀ k, Kn k → (derL cs k).length ≤ 10000000) :
    PF 68 [.dat false 6 (clDs cs)] (.tup [.dat false 4 (tmDs (allC cs).1), iv (allC cs).2]) := by
  have hlc := clDs_length cs
  refine AC_leP (Post := fun r O => (((allC cs).1 = [] ∧ r = .tup [.imm (.slice none 0 0), iv (allC cs).2]) ∨ r = .tup [.dat false 4 (tmDs (allC cs).1), iv (allC cs).2]) ∧ O = []) ?_ (fun r O' h => by
    obtain ⟨⟨h1, rfl⟩ | rfl, rfl⟩ := h
    · exact ⟨_, .tup (.cons (.nil (f := false) (k := 4)) (.cons .refl .nil)), by rw [h1]; rfl, rfl⟩
    · exact ⟨_, .refl, rfl, rfl⟩)
  refine AC_intro Tryz.func68 rfl Tryz.ntmps68 (Nat.le_of_ble_eq_true rfl) fun c hL hQ hDD => ?_; refine awp_seq ?_; refine awp_region ?_; refine awps_stp0 rfl rfl (by decide) (stp_move (.inr rfl) rfl) ?_; refine awps_stp0 rfl rfl (by decide) (stp_move (.inr rfl) rfl) ?_; refine awps_nil ?_; refine thenQ_nil ?_; refine awp_seq ?_; refine awp_seq ?_; refine awp_region ?_
  refine awps_stp0 rfl rfl (by decide) (stp_move (.inl rfl) rfl) ?_
  refine awps_callP (avs := [_, _]) false rfl rfl rfl (by decide) en_slices_ContainsFunc_api_Clause_api_Clause rfl rfl (ContainsFunc_cl_ok false cs _ rfl (by omega) _ [] en_known_bad (fun _ => []) (fun k => match cs[k]? with | some t => !(okC t) | none => false) ⟨fun k l => rfl, fun k => passO .nil, fun k => rfl, fun k => rfl, fun k => rfl, fun k => rfl, fun h => by cases h⟩ (fun k g hg _ => by rw [hg]; exact badC_ok g (hw g (List.mem_of_getElem? hg)))) (rfl) (passO .nil) (by rintro r O' ⟨m, n, b, _, _, _, _, rfl⟩; exact frB rfl) (by rintro h; cases h) ?_
  rintro r O' ⟨m, n, b, hm1, hf1, hc1, rfl, rfl⟩
  have hb1 := cont_all (l := cs) (p := okC) (fun j x hx => by simp only [hx]) hf1 hc1
  refine awps_nil ?_; refine thenQ_nil ?_; refine awp_cond rfl (fun c0 => ?_) (fun c0 => ?_)
  · try simp only [↓cqA, cqB] at c0
    have hbad : cs.all okC = false := by rw [hb1] at c0; simpa using c0
    refine awp_seq ?_; refine awp_region ?_; refine awps_stp0 rfl rfl (by decide) (stp_move (.inr rfl) rfl) ?_; refine awps_stp0 rfl rfl (by decide) (stp_move (.inr rfl) rfl) ?_; refine awps_nil ?_; refine thenQ_nil ?_; refine awp_ret ?_; refine thenQ_ret (?_)
    -- leaf 0T
    refine ret0 (noL hL) (.inl rfl) (resAs_tmp rfl (resAs_tmp rfl (resAs_nil))) ?_ ?_
    · rfl
    exact ⟨.inl ⟨by rw [allC, hbad]; rfl, by rw [allC, hbad]; rfl⟩, rfl⟩
  try simp only [↓cqA, cqB] at c0
  have hgood : cs.all okC = true := by rw [hb1] at c0; simpa using c0
  have hc : ∀ c ∈ cs, clauseE c = 0 := fun c hm => by have := List.all_eq_true.1 hgood c hm; simpa [okC] using this
  have hall : allC cs = allR cs 61 [] := by rw [allC, if_pos hgood]
  refine awp_skip ?_; refine thenQ_nil ?_; refine awp_seq ?_; refine awp_region ?_; refine awps_stp0 rfl rfl (by decide) (stp_move (.inr rfl) rfl) ?_; refine awps_nil ?_; refine thenQ_nil ?_; refine awp_block ?_
  refine awp_whileE (α := List Tm) (61) (fun k a => Kn a ∧ k ≤ a.length ∧ allC cs = allR cs (61 - k) a) (fun k a => ⟨[(0, .dat false 6 (clDs cs)), (4, .row 4)], [(4, .rowd 35 4 false (tmDs a))]⟩) ([]) (⟨Kn.nil, by simp, hall⟩) ?_ (fun k a hk hp => ?_)
  · exact Sub.trans (sub_nil_row (t := 4) (l := 4) 35 4 false rfl rfl) (sub_re (SubT.cons (lk_eq rfl (by first | rfl | simp)) (SubT.cons (lk_eq rfl (by first | rfl | simp)) (SubT.nil))) (SubO.cons (ok_eq rfl (by rfl)) (SubO.nil)) rfl rfl (noL' (noL hL) _))
  obtain ⟨hkn, hka, hkr⟩ := hp
  have hal := tmDs_length a
  have han := tmDs_length (nextL cs a)
  have hk60 := hkn.len
  have hnl := nextL_len hw hc hkn.atk
  have hbd := hB hgood a hkn
  obtain ⟨hgp, hga, hgn⟩ := grow_perm hw hc hkn
  have hru : allR cs (61 - k) a = if (nextL cs a).length = 0 then (a, 0) else if 60 < a.length + (nextL cs a).length then ([], 2) else allR cs (61 - (k + 1)) (srtU (a ++ nextL cs a)) := by
    rw [show 61 - k = (61 - (k + 1)) + 1 by omega]; rfl
  have hap : tmDs a ++ tmDs (nextL cs a) = tmDs (a ++ nextL cs a) := by rw [tmDs_map, tmDs_map, tmDs_map, List.map_append]
  have hapl := tmDs_length (a ++ nextL cs a)
  rw [List.length_append] at hapl
  have hst := AC_rnE 1 4 (stepR_ok cs hcl hw hc a hkn.atk (by omega) hbd)
  refine awp_block ?_; refine awp_seq ?_; refine awp_region ?_; refine awps_stp0 rfl rfl (by decide) (stp_move (.inl rfl) rfl) ?_; refine awps_stp0 rfl rfl (by decide) (stp_move (.inl rfl) rfl) ?_; refine awps_callP (avs := [_, _]) false rfl rfl rfl (by decide) en_known_step rfl rfl (hst) (rfl) (passO (.cons rfl trivial rfl .nil)) (by rintro r O' ⟨_, rfl⟩; exact frB rfl) (by rintro h; cases h) ?_
  rintro r O' ⟨rfl, rfl⟩
  refine awps_stp0 rfl rfl (by decide) (stp_move (.inr rfl) rfl) ?_; refine awps_nil ?_; refine thenQ_nil ?_; refine awp_seq ?_; refine awp_seq ?_; refine awp_region ?_; refine awps_stp0 rfl rfl (by decide) (stp_move (.inl rfl) rfl) ?_
  first | refine awps_stp0 rfl rfl (by decide) (stp_len_dat rfl sl_S_api_Term rfl) ?_ | refine awps_stp0 rfl rfl (by decide) (stp_len_rowd rfl sl_S_api_Term rfl rfl) ?_ | refine awps_stp0 rfl rfl (by decide) (stp_len_nil rfl sl_S_api_Term rfl) ?_ | refine awps_stp0 rfl rfl (by decide) (stp_len_vw rfl sl_S_api_Term rfl) ?_
  refine awps_stp0 rfl rfl (by decide) (stp_binI rfl rfl rfl rfl) ?_; refine awps_nil ?_; refine thenQ_nil ?_; refine awp_cond rfl (fun c1 => ?_) (fun c1 => ?_)
  · try simp only [↓cqA, cqB] at c1
    refine awp_sub (sub_freeze (l := 4) rfl (by decide) (noL hL _) rfl rfl) ?_; refine awp_seq ?_; refine awp_region ?_; refine awps_stp0 rfl rfl (by decide) (stp_move (.inl rfl) rfl) ?_; refine awps_stp0 rfl rfl (by decide) (stp_move (.inr rfl) rfl) ?_; refine awps_stp0 rfl rfl (by decide) (stp_move (.inr rfl) rfl) ?_; refine awps_nil ?_; refine thenQ_nil ?_; refine awp_ret ?_
    refine thenQ_ret (inQ_ret (thenQ_ret (inQ_ret (?_))))
    -- leaf 0F1T
    refine ret0 (noL hL) (.inl rfl) (resAs_tmp rfl (resAs_tmp rfl (resAs_nil))) ?_ ?_
    · rfl
    exact ⟨.inr (by rw [hkr, hru, if_pos (by omega)]; rfl), rfl⟩
  try simp only [↓cqA, cqB] at c1
  refine awp_skip ?_; refine thenQ_nil ?_; refine awp_seq ?_; refine awp_region ?_; refine awps_stp0 rfl rfl (by decide) (stp_move (.inl rfl) rfl) ?_; refine awps_stp0 rfl rfl (by decide) (stp_move (.inl rfl) rfl) ?_; refine awps_append_src 17 ta_S_api_Term rfl rfl (by decide) rfl rfl rfl (src_dat (tmDs_len4 _) rfl) rfl (tmDs_len4 _) (noL hL _) rfl (by omega) rfl ?_
  refine awps_stp0 rfl rfl (by decide) (stp_move (.inr rfl) rfl) ?_; refine awps_nil ?_; refine thenQ_nil ?_; refine awp_seq ?_; refine awp_seq ?_
  rw [hap]
  refine awp_region ?_; refine awps_stp0 rfl rfl (by decide) (stp_move (.inl rfl) rfl) ?_
  first | refine awps_stp0 rfl rfl (by decide) (stp_len_dat rfl sl_S_api_Term rfl) ?_ | refine awps_stp0 rfl rfl (by decide) (stp_len_rowd rfl sl_S_api_Term rfl rfl) ?_ | refine awps_stp0 rfl rfl (by decide) (stp_len_nil rfl sl_S_api_Term rfl) ?_ | refine awps_stp0 rfl rfl (by decide) (stp_len_vw rfl sl_S_api_Term rfl) ?_
  refine awps_stp0 rfl rfl (by decide) (stp_binI rfl rfl rfl rfl) ?_; refine awps_nil ?_; refine thenQ_nil ?_; refine awp_cond rfl (fun c2 => ?_) (fun c2 => ?_)
  · try simp only [↓cqA, cqB] at c2
    refine awp_seq ?_; refine awp_region ?_; refine awps_stp0 rfl rfl (by decide) (stp_move (.inr rfl) rfl) ?_; refine awps_stp0 rfl rfl (by decide) (stp_move (.inr rfl) rfl) ?_; refine awps_nil ?_; refine thenQ_nil ?_; refine awp_ret ?_; refine thenQ_ret (inQ_ret (thenQ_ret (inQ_ret (?_))))
    -- leaf 0F1F2T
    refine ret0 (noL hL) (.inl rfl) (resAs_tmp rfl (resAs_tmp rfl (resAs_nil))) ?_ ?_
    · rfl
    exact ⟨.inl ⟨by rw [hkr, hru, if_neg (by omega), if_pos (by omega)], by rw [hkr, hru, if_neg (by omega), if_pos (by omega)]; rfl⟩, rfl⟩
  try simp only [↓cqA, cqB] at c2
  refine awp_skip ?_; refine thenQ_nil ?_; refine awp_region ?_; refine awps_stp0 rfl rfl (by decide) (stp_move (.inl rfl) rfl) ?_
  refine awps_sort Tryz.srtT (k := 4) (by decide) tf_api_Term (sf := 134) rfl en_term_Compare en_slices_SortFunc_api_Term_api_Term (toD := tmD) (es := a ++ nextL cs a) (cf := cmpT 5) rfl rfl (by decide) rfl rfl rfl (by rw [← tmDs_map]; rfl) (by rw [List.length_append]; omega) (fun x hx y hy => ?_) (fun x _ => by rw [(TP.tm 5).self]; decide) (fun x _ y _ z _ h1 h2 => (TP.tm 5).lt1 h1 (by omega)) (fun x _ y _ z _ h1 h2 h3 => ?_) (fun es' hp2 hs2 => ?_)
  · exact Compare_ok 5 x y (may_dle (hga x hx).may) (hga x hx).wf (hga y hy).wf
  · have h4 := (TP.tm 5).anti x y
    have h5 := (TP.tm 5).anti y z
    have h6 := (TP.tm 5).anti x z
    have h7 := (TP.tm 5).tr z y x (by omega) (by omega)
    omega
  obtain rfl : es' = srtU (a ++ nextL cs a) := perm_ss (fun x hx => may_dle (hga x hx).may) hgn hp2 hs2
  refine awps_nil ?_; refine inQ_nil ?_; refine thenQ_nil ?_; refine ⟨?_, srtU (a ++ nextL cs a), ?_, ?_⟩
  · skip
    omega
  · skip
    refine ⟨hkn.grow hw hc (by omega), ?_, ?_⟩
    · rw [hgp.length_eq, List.length_append]; omega
    · rw [hkr, hru, if_neg (by omega), if_neg (by omega)]
  exact Sub.trans (sub_rename 17 4 (noL hL _) (noL hL _)) (sub_re (SubT.cons (lk_eq rfl (by first | rfl | simp)) (SubT.cons (lk_eq rfl (by first | rfl | simp)) (SubT.nil))) (SubO.cons (ok_eq rfl (by rw [tmDs_map]; rfl)) (SubO.nil)) rfl rfl (noL' (noL hL) _))
theorem light_ok (cs : List Cl) (hl : cs.length ≤ 600) (hw : ∀ q ∈ cs, q.wf) : PF 72 [.dat false 6 (clDs cs), iv 30] (bv (decide (pws cs < 300000))) := by
  have hlc := clDs_length cs
  refine AC_intro Tryz.func72 rfl Tryz.ntmps72 (Nat.le_of_ble_eq_true rfl) fun c hL hQ hDD => ?_; refine awp_seq ?_; refine awp_region ?_; refine awps_stp0 rfl rfl (by decide) (stp_move (.inr rfl) rfl) ?_; refine awps_nil ?_; refine thenQ_nil ?_; refine awp_seq ?_; refine awp_region ?_; refine awps_stp0 rfl rfl (by decide) (stp_move (.inr rfl) rfl) ?_; refine awps_nil ?_; refine thenQ_nil ?_
  refine awp_seq ?_; refine awp_seq ?_; refine awp_region ?_; refine awps_stp0 rfl rfl (by decide) (stp_move (.inr rfl) rfl) ?_; refine awps_nil ?_; refine thenQ_nil ?_; refine awp_block ?_; refine awp_while (cs.length) (fun i => i ≤ cs.length) (fun i => ⟨[(0, .dat false 6 (clDs cs)), (1, iv 30), (5, iv (pws (cs.take i))), (6, iv (i : Int))], []⟩) (by omega) ?_ (fun i hi hpi => ?_)
  · exact sub_re (SubT.cons (lk_eq rfl (by first | rfl | simp)) (SubT.cons (lk_eq rfl (by first | rfl | simp)) (SubT.cons (lk_eq rfl (by first | rfl | simp)) (SubT.cons (lk_eq rfl (by first | rfl | simp)) (SubT.nil))))) (SubO.nil) rfl rfl (noL' (noL hL) _)
  have hpr := pws_range (cs.take i)
  rw [List.length_take] at hpr
  refine awp_seq ?_; refine awp_seq ?_; refine awp_region ?_; refine awps_stp0 rfl rfl (by decide) (stp_move (.inl rfl) rfl) ?_; refine awps_stp0 rfl rfl (by decide) (stp_move (.inl rfl) rfl) ?_
  first | refine awps_stp0 rfl rfl (by decide) (stp_len_dat rfl sl_S_api_Clause rfl) ?_ | refine awps_stp0 rfl rfl (by decide) (stp_len_rowd rfl sl_S_api_Clause rfl rfl) ?_ | refine awps_stp0 rfl rfl (by decide) (stp_len_nil rfl sl_S_api_Clause rfl) ?_ | refine awps_stp0 rfl rfl (by decide) (stp_len_vw rfl sl_S_api_Clause rfl) ?_
  refine awps_stp0 rfl rfl (by decide) (stp_binI rfl rfl rfl rfl) ?_; refine awps_nil ?_; refine thenQ_nil ?_; refine awp_cond rfl (fun c0 => ?_) (fun c0 => ?_)
  · try simp only [↓cqA, cqB] at c0
    obtain ⟨q, hq⟩ := get_of_lt (l := cs) (k := i) (by omega)
    have hqb := (hw q (List.mem_of_getElem? hq)).2.1.1
    have hlb := tmDs_length q.body
    have hpt := pws_take hq
    simp only [lenOk] at hqb
    refine awp_skip ?_; refine thenQ_nil ?_; refine awp_seq ?_; refine awp_block ?_; refine awp_seq ?_; refine awp_region ?_; refine awps_stp0 rfl rfl (by decide) (stp_move (.inr rfl) rfl) ?_; refine awps_nil ?_; refine thenQ_nil ?_; refine awp_seq ?_; refine awp_seq ?_; refine awp_region ?_; refine awps_stp0 rfl rfl (by decide) (stp_move (.inr rfl) rfl) ?_; refine awps_nil ?_
    refine thenQ_nil ?_; refine awp_block ?_; refine awp_while (q.body.length) (fun j => j ≤ q.body.length) (fun j => ⟨[(0, .dat false 6 (clDs cs)), (1, iv 30), (5, iv (pws (cs.take i))), (6, iv (i : Int)), (7, iv (pw j)), (8, iv (j : Int))], []⟩) (by omega) ?_ (fun j hj hpj => ?_)
    · exact sub_re (SubT.cons (lk_eq rfl (by first | rfl | simp)) (SubT.cons (lk_eq rfl (by first | rfl | simp)) (SubT.cons (lk_eq rfl (by first | rfl | simp)) (SubT.cons (lk_eq rfl (by first | rfl | simp)) (SubT.cons (lk_eq rfl (by first | rfl | simp)) (SubT.cons (lk_eq rfl (by first | rfl | simp)) (SubT.nil))))))) (SubO.nil) rfl rfl (noL' (noL hL) _)
    have hpj := pw_range j
    refine awp_seq ?_; refine awp_seq ?_; refine awp_region ?_; refine awps_stp0 rfl rfl (by decide) (stp_move (.inl rfl) rfl) ?_; refine awps_stp0 rfl rfl (by decide) (stp_move (.inl rfl) rfl) ?_; refine awps_stp0 rfl rfl (by decide) (stp_move (.inl rfl) rfl) ?_
    first | refine awps_stp0 rfl rfl (by decide) (stp_indexAddr rfl sl_S_api_Clause rfl rfl (by omega) (clDs_get hq)) ?_ | refine awps_stp0 rfl rfl (by decide) (stp_indexAddr_rowd rfl sl_S_api_Clause rfl rfl rfl (by omega) (clDs_get hq)) ?_ | refine awps_stp0 rfl rfl (by decide) (stp_indexAddr_row rfl sl_S_api_Clause rfl rfl rfl (by omega) (clDs_get hq) (by decide)) ?_
    first | refine awps_stp0 rfl rfl (by decide) (stp_fieldAddr rfl fo_api_Clause_1 rfl) ?_ | refine awps_stp0 rfl rfl (by decide) (stp_fieldAddr_elp rfl fo_api_Clause_1 rfl) ?_
    first | refine awps_stp0 rfl rfl (by decide) (stp_load rfl tf_S_api_Term rfl rfl rfl rfl rfl) ?_ | refine awps_stp0 rfl rfl (by decide) (stp_load_elp1 rfl tf_S_api_Term rfl) ?_ | refine awps_stp0 rfl rfl (by decide) (stp_load_elpn rfl tf_S_api_Term rfl rfl rfl) ?_
    first | refine awps_stp0 rfl rfl (by decide) (stp_len_dat rfl sl_S_api_Term rfl) ?_ | refine awps_stp0 rfl rfl (by decide) (stp_len_rowd rfl sl_S_api_Term rfl rfl) ?_ | refine awps_stp0 rfl rfl (by decide) (stp_len_nil rfl sl_S_api_Term rfl) ?_ | refine awps_stp0 rfl rfl (by decide) (stp_len_vw rfl sl_S_api_Term rfl) ?_
    refine awps_stp0 rfl rfl (by decide) (stp_binI rfl rfl rfl rfl) ?_; refine awps_stp0 rfl rfl (by decide) (stp_move (.inl rfl) rfl) ?_; refine awps_split 23 rfl (fun g23 => ?_) (fun g23 => ?_)
    · try simp only [↓cqA, cqB] at g23
      refine awps_g0 rfl rfl rfl (by decide) rfl (by decide) (stp_move (.inl rfl) rfl) ?_; refine awps_g0 rfl rfl rfl (by decide) rfl (by decide) (stp_binI rfl rfl rfl rfl) ?_; refine awps_stp0 rfl rfl (by decide) (stp_pick rfl rfl rfl) ?_; refine awps_nil ?_; refine thenQ_nil ?_; refine awp_cond rfl (fun c1 => ?_) (fun c1 => ?_)
      · try simp only [↓cqA, cqB] at c1
        refine awp_skip ?_; refine thenQ_nil ?_; refine awp_seq ?_; refine awp_block ?_; refine awp_region ?_; refine awps_stp0 rfl rfl (by decide) (stp_move (.inl rfl) rfl) ?_; refine awps_stp0 rfl rfl (by decide) (stp_move (.inl rfl) rfl) ?_; refine awps_stp0 rfl rfl (by decide) (stp_max rfl rfl rfl) ?_
        refine awps_stp0 rfl rfl (by decide) (stp_mul rfl rfl rfl (by rw [show (if (30 : Int) > 1 then (30 : Int) else 1) = 30 from rfl]; omega)) ?_; refine awps_stp0 rfl rfl (by decide) (stp_move (.inr rfl) rfl) ?_; refine awps_nil ?_; refine inQ_nil ?_; refine thenQ_nil ?_; refine awp_region ?_; refine awps_stp0 rfl rfl (by decide) (stp_move (.inl rfl) rfl) ?_
        refine awps_stp0 rfl rfl (by decide) (stp_add rfl rfl rfl (by omega)) ?_; refine awps_stp0 rfl rfl (by decide) (stp_move (.inr rfl) rfl) ?_; refine awps_nil ?_; refine thenQ_nil ?_; refine ⟨?_, ?_, ?_⟩
        · skip
          omega
        · skip
          omega
        exact sub_re (SubT.cons (lk_eq rfl (by first | rfl | simp)) (SubT.cons (lk_eq rfl (by first | rfl | simp)) (SubT.cons (lk_eq rfl (by first | rfl | simp)) (SubT.cons (lk_eq rfl (by first | rfl | simp)) (SubT.cons (lk_eq rfl (by exact int_imm (by show pw j * 30 = _; rw [pw, if_pos (by omega)]))) (SubT.cons (lk_eq rfl (by first | rfl | simp)) (SubT.nil))))))) (SubO.nil) rfl rfl (noL' (noL hL) _)
      try simp only [↓cqA, cqB] at c1
      have hpe : pw j = pw q.body.length := by
        have := pw_stop j (by omega) (q.body.length - j)
        rw [show j + (q.body.length - j) = q.body.length by omega] at this
        exact this.symm
      refine awp_exit ?_; refine thenQ_exit (thenQ_exit (inQ_hit ?_)); refine thenQ_nil ?_; refine awp_region ?_; refine awps_stp0 rfl rfl (by decide) (stp_move (.inl rfl) rfl) ?_; refine awps_stp0 rfl rfl (by decide) (stp_move (.inl rfl) rfl) ?_; refine awps_stp0 rfl rfl (by decide) (stp_add rfl rfl rfl (by omega)) ?_; refine awps_stp0 rfl rfl (by decide) (stp_move (.inr rfl) rfl) ?_
      refine awps_nil ?_; refine inQ_nil ?_; refine thenQ_nil ?_; refine awp_region ?_; refine awps_stp0 rfl rfl (by decide) (stp_move (.inl rfl) rfl) ?_; refine awps_stp0 rfl rfl (by decide) (stp_add rfl rfl rfl (by omega)) ?_; refine awps_stp0 rfl rfl (by decide) (stp_move (.inr rfl) rfl) ?_; refine awps_nil ?_; refine thenQ_nil ?_; refine ⟨?_, ?_, ?_⟩
      · skip
        omega
      · skip
        omega
      exact sub_re (SubT.cons (lk_eq rfl (by first | rfl | simp)) (SubT.cons (lk_eq rfl (by first | rfl | simp)) (SubT.cons (lk_eq rfl (by exact int_imm (by rw [hpt, hpe]))) (SubT.cons (lk_eq rfl (by first | rfl | simp)) (SubT.nil))))) (SubO.nil) rfl rfl (noL' (noL hL) _)
    try simp only [↓cqA, cqB] at g23
    have hpe : pw j = pw q.body.length := by rw [show j = q.body.length by omega]
    refine awps_gs rfl rfl rfl rfl (by decide) rfl (by decide) ?_; refine awps_gs rfl rfl rfl rfl (by decide) rfl (by decide) ?_; refine awps_stp0 rfl rfl (by decide) (stp_pick rfl rfl rfl) ?_; refine awps_nil ?_; refine thenQ_nil ?_; refine awp_condF rfl ?_; refine awp_exit ?_; refine thenQ_exit (thenQ_exit (inQ_hit ?_)); refine thenQ_nil ?_; refine awp_region ?_
    refine awps_stp0 rfl rfl (by decide) (stp_move (.inl rfl) rfl) ?_; refine awps_stp0 rfl rfl (by decide) (stp_move (.inl rfl) rfl) ?_; refine awps_stp0 rfl rfl (by decide) (stp_add rfl rfl rfl (by omega)) ?_; refine awps_stp0 rfl rfl (by decide) (stp_move (.inr rfl) rfl) ?_; refine awps_nil ?_; refine inQ_nil ?_; refine thenQ_nil ?_; refine awp_region ?_
    refine awps_stp0 rfl rfl (by decide) (stp_move (.inl rfl) rfl) ?_; refine awps_stp0 rfl rfl (by decide) (stp_add rfl rfl rfl (by omega)) ?_; refine awps_stp0 rfl rfl (by decide) (stp_move (.inr rfl) rfl) ?_; refine awps_nil ?_; refine thenQ_nil ?_; refine ⟨?_, ?_, ?_⟩
    · skip
      omega
    · skip
      omega
    exact sub_re (SubT.cons (lk_eq rfl (by first | rfl | simp)) (SubT.cons (lk_eq rfl (by first | rfl | simp)) (SubT.cons (lk_eq rfl (by exact int_imm (by rw [hpt, hpe]))) (SubT.cons (lk_eq rfl (by first | rfl | simp)) (SubT.nil))))) (SubO.nil) rfl rfl (noL' (noL hL) _)
  try simp only [↓cqA, cqB] at c0
  rw [List.take_of_length_le (l := cs) (i := i) (by omega)]
  refine awp_exit ?_; refine thenQ_exit (thenQ_exit (inQ_hit ?_)); refine thenQ_nil ?_; refine awp_seq ?_; refine awp_region ?_; refine awps_stp0 rfl rfl (by decide) (stp_move (.inl rfl) rfl) ?_; refine awps_stp0 rfl rfl (by decide) (stp_binI rfl rfl rfl rfl) ?_; refine awps_stp0 rfl rfl (by decide) (stp_move (.inr rfl) rfl) ?_; refine awps_nil ?_; refine thenQ_nil ?_; refine awp_ret ?_
  -- leaf 0F
  refine ret0 (noL hL) (.inl rfl) (resAs_tmp rfl (resAs_nil)) ?_ ?_
  · rfl
  exact ⟨rfl, rfl⟩
theorem mrg_eA {a b : List Tm} {i k : Nat} {u : Tm} (hu : a[i]? = some u) (h : b.length ≤ k ∨ ∃ v, b[k]? = some v ∧ ordT 5 u v < 0) : mrg (a.drop i) (b.drop k) = u :: mrg (a.drop (i + 1)) (b.drop k) := by
  obtain ⟨h1, h2⟩ := List.getElem?_eq_some_iff.1 hu
  rw [List.drop_eq_getElem_cons h1, h2]
  rcases h with h | ⟨v, hv, h⟩
  · rw [List.drop_eq_nil_of_le h, mrg_nil, mrg_nil]
  · obtain ⟨h3, h4⟩ := List.getElem?_eq_some_iff.1 hv
    rw [List.drop_eq_getElem_cons h3, h4, mrg_cons, if_pos h]
theorem mrg_eB {a b : List Tm} {i k : Nat} {v : Tm} (hv : b[k]? = some v) (h : a.length ≤ i ∨ ∃ u, a[i]? = some u ∧ ¬ ordT 5 u v < 0) : mrg (a.drop i) (b.drop k) = v :: mrg (a.drop i) (b.drop (k + 1)) := by
  obtain ⟨h1, h2⟩ := List.getElem?_eq_some_iff.1 hv
  rw [List.drop_eq_getElem_cons h1, h2]
  rcases h with h | ⟨u, hu, h⟩
  · rw [List.drop_eq_nil_of_le h]; rfl
  · obtain ⟨h3, h4⟩ := List.getElem?_eq_some_iff.1 hu
    rw [List.drop_eq_getElem_cons h3, h4, mrg_cons, if_neg h]
theorem merged_ok (a b : List Tm) (ha : a.length ≤ 1000) (hb : b.length ≤ 1000) (hda : ∀ t ∈ a, dle 5 t) (hwa : ∀ t ∈ a, t.wf) (hwb : ∀ t ∈ b, t.wf) : PF 74 [.dat false 4 (tmDs a), .dat false 4 (tmDs b)] (.dat false 4 (tmDs (mrg a b))) := by
  have hla := tmDs_length a
  have hlb := tmDs_length b
  refine AC_intro Tryz.func74 rfl Tryz.ntmps74 (Nat.le_of_ble_eq_true rfl) fun c hL hQ hDD => ?_; refine awp_seq ?_; refine awp_region ?_; refine awps_stp0 rfl rfl (by decide) (stp_move (.inr rfl) rfl) ?_; refine awps_nil ?_; refine thenQ_nil ?_; refine awp_seq ?_; refine awp_region ?_; refine awps_stp0 rfl rfl (by decide) (stp_move (.inr rfl) rfl) ?_; refine awps_nil ?_; refine thenQ_nil ?_
  refine awp_seq ?_; refine awp_region ?_; refine awps_stp0 rfl rfl (by decide) (stp_move (.inr rfl) rfl) ?_; refine awps_stp0 rfl rfl (by decide) (stp_move (.inr rfl) rfl) ?_; refine awps_nil ?_; refine thenQ_nil ?_; refine awp_seq ?_; refine awp_block ?_
  refine awp_whileE (α := (Nat × Nat) × List Tm) (a.length + b.length) (fun r e => e.1.1 + e.1.2 = r ∧ e.1.1 ≤ a.length ∧ e.1.2 ≤ b.length ∧ e.2.length = r ∧ e.2 ++ mrg (a.drop e.1.1) (b.drop e.1.2) = mrg a b) (fun r e => ⟨[(0, .dat false 4 (tmDs a)), (1, .dat false 4 (tmDs b)), (5, .row 5), (6, iv (e.1.1 : Int)), (7, iv (e.1.2 : Int))], [(5, .rowd 35 4 false (tmDs e.2))]⟩) (((0, 0), [])) (⟨rfl, by simp, by simp, rfl, rfl⟩) ?_ (fun r e hr hpr => ?_)
  · exact Sub.trans (sub_nil_row (t := 5) (l := 5) 35 4 false rfl rfl) (sub_re (SubT.cons (lk_eq rfl (by first | rfl | simp)) (SubT.cons (lk_eq rfl (by first | rfl | simp)) (SubT.cons (lk_eq rfl (by first | rfl | simp)) (SubT.cons (lk_eq rfl (by first | rfl | simp)) (SubT.cons (lk_eq rfl (by first | rfl | simp)) (SubT.nil)))))) (SubO.cons (ok_eq rfl (by rfl)) (SubO.nil)) rfl rfl (noL' (noL hL) _))
  obtain ⟨hs, hi, hk2, hel, hm⟩ := hpr
  have hle := tmDs_length e.2
  refine awp_seq ?_; refine awp_seq ?_; refine awp_region ?_; refine awps_stp0 rfl rfl (by decide) (stp_move (.inl rfl) rfl) ?_; refine awps_stp0 rfl rfl (by decide) (stp_move (.inl rfl) rfl) ?_
  first | refine awps_stp0 rfl rfl (by decide) (stp_len_dat rfl sl_S_api_Term rfl) ?_ | refine awps_stp0 rfl rfl (by decide) (stp_len_rowd rfl sl_S_api_Term rfl rfl) ?_ | refine awps_stp0 rfl rfl (by decide) (stp_len_nil rfl sl_S_api_Term rfl) ?_ | refine awps_stp0 rfl rfl (by decide) (stp_len_vw rfl sl_S_api_Term rfl) ?_
  refine awps_stp0 rfl rfl (by decide) (stp_binI rfl rfl rfl rfl) ?_; refine awps_stp0 rfl rfl (by decide) (stp_move (.inl rfl) rfl) ?_; refine awps_split 12 rfl (fun g12 => ?_) (fun g12 => ?_)
  · try simp only [↓cqA, cqB] at g12
    refine awps_gs rfl rfl rfl rfl (by decide) rfl (by decide) ?_; refine awps_gs rfl rfl rfl rfl (by decide) rfl (by decide) ?_; refine awps_gs rfl rfl rfl rfl (by decide) rfl (by decide) ?_; refine awps_gs rfl rfl rfl rfl (by decide) rfl (by decide) ?_; refine awps_stp0 rfl rfl (by decide) (stp_pick rfl rfl rfl) ?_; refine awps_nil ?_; refine thenQ_nil ?_; refine awp_condT rfl ?_
    refine awp_skip ?_; refine thenQ_nil ?_; refine awp_block ?_; refine awp_seq ?_
    rcases Bool.eq_false_or_eq_true (((e.1.2 : Int) == ((tmDs b).length : Int))) with l21 | l21
    · have m21 := l21
      try simp only [↓cqA, cqB] at m21
      obtain ⟨u, hu⟩ := get_of_lt (l := a) (k := e.1.1) (by omega)
      have hstep := mrg_eA (b := b) (k := e.1.2) hu (.inl (by omega))
      refine awp_drawG 18 mixed rfl rfl rfl rfl ?_; refine MGo_c0 rfl (by decide) (.run rfl (stp_move (.inl rfl) rfl)) ?_; refine MGo_c0 rfl (by decide) (.run rfl (stp_move (.inl rfl) rfl)) ?_
      first | refine MGo_c0 rfl (by decide) (.run rfl (stp_len_dat rfl sl_S_api_Term rfl)) ?_ | refine MGo_c0 rfl (by decide) (.run rfl (stp_len_rowd rfl sl_S_api_Term rfl rfl)) ?_ | refine MGo_c0 rfl (by decide) (.run rfl (stp_len_nil rfl sl_S_api_Term rfl)) ?_ | refine MGo_c0 rfl (by decide) (.run rfl (stp_len_vw rfl sl_S_api_Term rfl)) ?_
      refine MGo_c0 rfl (by decide) (.run rfl (stp_binI (r := .bool true) rfl rfl rfl (congrArg (fun b => some (Value.bool b)) l21))) ?_; refine MGo_c0 rfl (by decide) (.run rfl (stp_move (.inl rfl) rfl)) ?_; refine MGo_c0 rfl (by decide) (.skip rfl rfl rfl (by decide) (by decide)) ?_; refine MGo_c0 rfl (by decide) (.skip rfl rfl rfl (by decide) (by decide)) ?_
      refine MGo_c0 rfl (by decide) (.skip rfl rfl rfl (by decide) (by decide)) ?_; refine MGo_c0 rfl (by decide) (.skip rfl rfl rfl (by decide) (by decide)) ?_; refine MGo_c0 rfl (by decide) (.skip rfl rfl rfl (by decide) (by decide)) ?_; refine MGo_c0 rfl (by decide) (.skipu rfl rfl rfl (by decide)) ?_; refine MGo_c0 rfl (by decide) (.skipu rfl rfl rfl (by decide)) ?_
      refine MGo_c0 rfl (by decide) (.skipu rfl rfl rfl (by decide)) ?_; refine MGo_c0 rfl (by decide) (.skipu rfl rfl rfl (by decide)) ?_; refine MGo_c0 rfl (by decide) (.skipu rfl rfl rfl (by decide)) ?_; refine MGo_c0 rfl (by decide) (.skipu rfl rfl rfl (by decide)) ?_; refine MGo_c0 rfl (by decide) (.skipu rfl rfl rfl (by decide)) ?_
      refine MGo_c0 rfl (by decide) (.skipu rfl rfl rfl (by decide)) ?_; refine MGo_nil ⟨rfl, rfl, ?_⟩; refine awps_gu rfl rfl rfl (by decide) rfl (by decide) ?_; refine awps_gu rfl rfl rfl (by decide) rfl (by decide) ?_; refine awps_gs rfl rfl rfl rfl (by decide) rfl (by decide) ?_; refine awps_stp0 rfl rfl (by decide) (stp_pick rfl rfl rfl) ?_; refine awps_nil ?_; refine thenQ_nil ?_
      refine awp_condT rfl ?_; refine awp_seq ?_
      have hst2 : mrg (a.drop e.1.1) (b.drop e.1.2) = u :: mrg (a.drop (e.1.1 + 1)) (b.drop e.1.2) := by first | exact hstep | exact mrg_eA hu (.inr ⟨v, hv, by omega⟩)
      let e2 : (Nat × Nat) × List Tm := ((e.1.1 + 1, e.1.2), e.2 ++ [u])
      have hst : e2.1.1 + e2.1.2 = r + 1 ∧ e2.1.1 ≤ a.length ∧ e2.1.2 ≤ b.length ∧ e2.2.length = r + 1 ∧ e2.2 ++ mrg (a.drop e2.1.1) (b.drop e2.1.2) = mrg a b := ⟨by simp only [e2]; omega, by have := (List.getElem?_eq_some_iff.1 hu).1; simp only [e2]; omega, hk2, by simp only [e2, List.length_append, List.length_singleton]; omega, by rw [← hm, hst2]; simp [e2]⟩
      refine awp_region ?_; refine awps_stp0 rfl rfl (by decide) (stp_move (.inl rfl) rfl) ?_; refine awps_stp0 rfl rfl (by decide) (stp_move (.inl rfl) rfl) ?_; refine awps_stp0 rfl rfl (by decide) (stp_move (.inl rfl) rfl) ?_
      first | refine awps_stp0 rfl rfl (by decide) (stp_indexAddr rfl sl_S_api_Term rfl rfl (by omega) (tmDs_get hu)) ?_ | refine awps_stp0 rfl rfl (by decide) (stp_indexAddr_rowd rfl sl_S_api_Term rfl rfl rfl (by omega) (tmDs_get hu)) ?_ | refine awps_stp0 rfl rfl (by decide) (stp_indexAddr_row rfl sl_S_api_Term rfl rfl rfl (by omega) (tmDs_get hu) (by decide)) ?_
      first | refine awps_stp0 rfl rfl (by decide) (stp_load_all rfl tf_api_Term rfl rfl rfl rfl) ?_ | refine awps_stp0 rfl rfl (by decide) (stp_load rfl tf_api_Term rfl rfl rfl rfl rfl) ?_ | refine awps_stp0 rfl rfl (by decide) (stp_load_elpa rfl tf_api_Term rfl rfl) ?_ | refine awps_stp0 rfl rfl (by decide) (stp_load_elpn rfl tf_api_Term rfl rfl rfl) ?_
      refine awps_stp1 rfl rfl (by decide) (stp_buildSlice 45 rfl sl_S_api_Term zv_api_Term rfl rfl (by decide) (by decide) (by decide) rfl rfl rfl) rfl ?_
      first | refine awps_u rfl rfl (by decide) (stpU_append1 46 ta_S_api_Term rfl rfl rfl rfl rfl rfl rfl rfl (noL hL _) (by omega) rfl) rfl ?_ | refine awps_u rfl rfl (by decide) (stpU_appendd 46 ta_S_api_Term rfl rfl rfl rfl rfl (noL hL _) (by simp) (by omega) rfl) rfl ?_ | refine awps_u rfl rfl (by decide) (stpU_appendi 46 ta_S_api_Term rfl rfl rfl rfl (rfl) rfl (noL hL _) (by simp) (by omega) rfl) rfl ?_
      refine awps_stp0 rfl rfl (by decide) (stp_move (.inr rfl) rfl) ?_; refine awps_nil ?_; refine thenQ_nil ?_; refine awp_sub (sub_rename 46 5 (noL hL _) (noL hL _)) ?_; refine awp_region ?_; refine awps_stp0 rfl rfl (by decide) (stp_move (.inl rfl) rfl) ?_; refine awps_stp0 rfl rfl (by decide) (stp_add rfl rfl rfl (by omega)) ?_
      refine awps_stp0 rfl rfl (by decide) (stp_move (.inr rfl) rfl) ?_; refine awps_nil ?_; refine inQ_nil ?_; refine thenQ_nil ?_; refine ⟨?_, e2, ?_, ?_⟩
      · skip
        omega
      · skip
        exact hst
      exact sub_re (SubT.cons (lk_eq rfl (by first | rfl | simp)) (SubT.cons (lk_eq rfl (by first | rfl | simp)) (SubT.cons (lk_eq rfl (by first | rfl | simp)) (SubT.cons (lk_eq rfl (by first | rfl | simp)) (SubT.cons (lk_eq rfl (by first | rfl | simp)) (SubT.nil)))))) (SubO.cons (ok_eq rfl (by rw [tmDs_snoc]; rfl)) (SubO.nil)) rfl rfl (noL' (noL hL) _)
    have m21 := l21
    try simp only [↓cqA, cqB] at m21
    obtain ⟨v, hv⟩ := get_of_lt (l := b) (k := e.1.2) (by omega)
    rcases Bool.eq_false_or_eq_true (decide ((e.1.1 : Int) < ((tmDs a).length : Int))) with l26 | l26
    · have m26 := l26
      try simp only [↓cqA, cqB] at m26
      obtain ⟨u, hu⟩ := get_of_lt (l := a) (k := e.1.1) (by omega)
      have hum := List.mem_of_getElem? hu
      refine awp_drawG 18 mixed rfl rfl rfl rfl ?_; refine MGo_c0 rfl (by decide) (.run rfl (stp_move (.inl rfl) rfl)) ?_; refine MGo_c0 rfl (by decide) (.run rfl (stp_move (.inl rfl) rfl)) ?_
      first | refine MGo_c0 rfl (by decide) (.run rfl (stp_len_dat rfl sl_S_api_Term rfl)) ?_ | refine MGo_c0 rfl (by decide) (.run rfl (stp_len_rowd rfl sl_S_api_Term rfl rfl)) ?_ | refine MGo_c0 rfl (by decide) (.run rfl (stp_len_nil rfl sl_S_api_Term rfl)) ?_ | refine MGo_c0 rfl (by decide) (.run rfl (stp_len_vw rfl sl_S_api_Term rfl)) ?_
      refine MGo_c0 rfl (by decide) (.run rfl (stp_binI (r := .bool false) rfl rfl rfl (congrArg (fun b => some (Value.bool b)) l21))) ?_; refine MGo_c0 rfl (by decide) (.run rfl (stp_move (.inl rfl) rfl)) ?_; refine MGo_c0 rfl (by decide) (.want rfl rfl rfl (by decide) (stp_move (.inl rfl) rfl)) ?_; refine MGo_c0 rfl (by decide) (.want rfl rfl rfl (by decide) (stp_move (.inl rfl) rfl)) ?_
      first | refine MGo_c0 rfl (by decide) (.want rfl rfl rfl (by decide) (stp_len_dat rfl sl_S_api_Term rfl)) ?_ | refine MGo_c0 rfl (by decide) (.want rfl rfl rfl (by decide) (stp_len_rowd rfl sl_S_api_Term rfl rfl)) ?_ | refine MGo_c0 rfl (by decide) (.want rfl rfl rfl (by decide) (stp_len_nil rfl sl_S_api_Term rfl)) ?_ | refine MGo_c0 rfl (by decide) (.want rfl rfl rfl (by decide) (stp_len_vw rfl sl_S_api_Term rfl)) ?_
      refine MGo_c0 rfl (by decide) (.want rfl rfl rfl (by decide) (stp_binI (r := .bool true) rfl rfl rfl (congrArg (fun b => some (Value.bool b)) l26))) ?_; refine MGo_c0 rfl (by decide) (.want rfl rfl rfl (by decide) (stp_move (.inl rfl) rfl)) ?_; refine MGo_c0 rfl (by decide) (.want rfl rfl rfl (by decide) (stp_move (.inl rfl) rfl)) ?_
      refine MGo_c0 rfl (by decide) (.want rfl rfl rfl (by decide) (stp_move (.inl rfl) rfl)) ?_
      first | refine MGo_c0 rfl (by decide) (.want rfl rfl rfl (by decide) (stp_indexAddr rfl sl_S_api_Term rfl rfl (by omega) (tmDs_get hu))) ?_ | refine MGo_c0 rfl (by decide) (.want rfl rfl rfl (by decide) (stp_indexAddr_rowd rfl sl_S_api_Term rfl rfl rfl (by omega) (tmDs_get hu))) ?_ | refine MGo_c0 rfl (by decide) (.want rfl rfl rfl (by decide) (stp_indexAddr_row rfl sl_S_api_Term rfl rfl rfl (by omega) (tmDs_get hu) (by decide))) ?_
      first | refine MGo_c0 rfl (by decide) (.want rfl rfl rfl (by decide) (stp_load_all rfl tf_api_Term rfl rfl rfl rfl)) ?_ | refine MGo_c0 rfl (by decide) (.want rfl rfl rfl (by decide) (stp_load rfl tf_api_Term rfl rfl rfl rfl rfl)) ?_ | refine MGo_c0 rfl (by decide) (.want rfl rfl rfl (by decide) (stp_load_elpa rfl tf_api_Term rfl rfl)) ?_ | refine MGo_c0 rfl (by decide) (.want rfl rfl rfl (by decide) (stp_load_elpn rfl tf_api_Term rfl rfl rfl)) ?_
      refine MGo_c0 rfl (by decide) (.want rfl rfl rfl (by decide) (stp_move (.inl rfl) rfl)) ?_; refine MGo_c0 rfl (by decide) (.want rfl rfl rfl (by decide) (stp_move (.inl rfl) rfl)) ?_
      first | refine MGo_c0 rfl (by decide) (.want rfl rfl rfl (by decide) (stp_indexAddr rfl sl_S_api_Term rfl rfl (by omega) (tmDs_get hv))) ?_ | refine MGo_c0 rfl (by decide) (.want rfl rfl rfl (by decide) (stp_indexAddr_rowd rfl sl_S_api_Term rfl rfl rfl (by omega) (tmDs_get hv))) ?_ | refine MGo_c0 rfl (by decide) (.want rfl rfl rfl (by decide) (stp_indexAddr_row rfl sl_S_api_Term rfl rfl rfl (by omega) (tmDs_get hv) (by decide))) ?_
      first | refine MGo_c0 rfl (by decide) (.want rfl rfl rfl (by decide) (stp_load_all rfl tf_api_Term rfl rfl rfl rfl)) ?_ | refine MGo_c0 rfl (by decide) (.want rfl rfl rfl (by decide) (stp_load rfl tf_api_Term rfl rfl rfl rfl rfl)) ?_ | refine MGo_c0 rfl (by decide) (.want rfl rfl rfl (by decide) (stp_load_elpa rfl tf_api_Term rfl rfl)) ?_ | refine MGo_c0 rfl (by decide) (.want rfl rfl rfl (by decide) (stp_load_elpn rfl tf_api_Term rfl rfl rfl)) ?_
      refine MGo_nil ⟨rfl, rfl, ?_⟩; refine awps_g0 rfl rfl rfl (by decide) rfl (by decide) (stp_call (avs := [_, _]) true rfl en_almagestref1_Order rfl rfl (Order_ok 5 u v (hda u hum) (hwa u hum) (hwb v (List.mem_of_getElem? hv))) (fun _ => rfl) rfl) ?_; refine awps_g0 rfl rfl rfl (by decide) rfl (by decide) (stp_binI rfl rfl rfl rfl) ?_
      refine awps_g0 rfl rfl rfl (by decide) rfl (by decide) (stp_pick rfl rfl rfl) ?_; refine awps_stp0 rfl rfl (by decide) (stp_pick rfl rfl rfl) ?_; refine awps_nil ?_; refine thenQ_nil ?_; refine awp_cond rfl (fun c1 => ?_) (fun c1 => ?_)
      · try simp only [↓cqA, cqB] at c1
        refine awp_seq ?_
        have hst2 : mrg (a.drop e.1.1) (b.drop e.1.2) = u :: mrg (a.drop (e.1.1 + 1)) (b.drop e.1.2) := by first | exact hstep | exact mrg_eA hu (.inr ⟨v, hv, by omega⟩)
        let e2 : (Nat × Nat) × List Tm := ((e.1.1 + 1, e.1.2), e.2 ++ [u])
        have hst : e2.1.1 + e2.1.2 = r + 1 ∧ e2.1.1 ≤ a.length ∧ e2.1.2 ≤ b.length ∧ e2.2.length = r + 1 ∧ e2.2 ++ mrg (a.drop e2.1.1) (b.drop e2.1.2) = mrg a b := ⟨by simp only [e2]; omega, by have := (List.getElem?_eq_some_iff.1 hu).1; simp only [e2]; omega, hk2, by simp only [e2, List.length_append, List.length_singleton]; omega, by rw [← hm, hst2]; simp [e2]⟩
        refine awp_region ?_; refine awps_stp0 rfl rfl (by decide) (stp_move (.inl rfl) rfl) ?_; refine awps_stp0 rfl rfl (by decide) (stp_move (.inl rfl) rfl) ?_; refine awps_stp0 rfl rfl (by decide) (stp_move (.inl rfl) rfl) ?_
        first | refine awps_stp0 rfl rfl (by decide) (stp_indexAddr rfl sl_S_api_Term rfl rfl (by omega) (tmDs_get hu)) ?_ | refine awps_stp0 rfl rfl (by decide) (stp_indexAddr_rowd rfl sl_S_api_Term rfl rfl rfl (by omega) (tmDs_get hu)) ?_ | refine awps_stp0 rfl rfl (by decide) (stp_indexAddr_row rfl sl_S_api_Term rfl rfl rfl (by omega) (tmDs_get hu) (by decide)) ?_
        first | refine awps_stp0 rfl rfl (by decide) (stp_load_all rfl tf_api_Term rfl rfl rfl rfl) ?_ | refine awps_stp0 rfl rfl (by decide) (stp_load rfl tf_api_Term rfl rfl rfl rfl rfl) ?_ | refine awps_stp0 rfl rfl (by decide) (stp_load_elpa rfl tf_api_Term rfl rfl) ?_ | refine awps_stp0 rfl rfl (by decide) (stp_load_elpn rfl tf_api_Term rfl rfl rfl) ?_
        refine awps_stp1 rfl rfl (by decide) (stp_buildSlice 45 rfl sl_S_api_Term zv_api_Term rfl rfl (by decide) (by decide) (by decide) rfl rfl rfl) rfl ?_
        first | refine awps_u rfl rfl (by decide) (stpU_append1 46 ta_S_api_Term rfl rfl rfl rfl rfl rfl rfl rfl (noL hL _) (by omega) rfl) rfl ?_ | refine awps_u rfl rfl (by decide) (stpU_appendd 46 ta_S_api_Term rfl rfl rfl rfl rfl (noL hL _) (by simp) (by omega) rfl) rfl ?_ | refine awps_u rfl rfl (by decide) (stpU_appendi 46 ta_S_api_Term rfl rfl rfl rfl (rfl) rfl (noL hL _) (by simp) (by omega) rfl) rfl ?_
        refine awps_stp0 rfl rfl (by decide) (stp_move (.inr rfl) rfl) ?_; refine awps_nil ?_; refine thenQ_nil ?_; refine awp_sub (sub_rename 46 5 (noL hL _) (noL hL _)) ?_; refine awp_region ?_; refine awps_stp0 rfl rfl (by decide) (stp_move (.inl rfl) rfl) ?_; refine awps_stp0 rfl rfl (by decide) (stp_add rfl rfl rfl (by omega)) ?_
        refine awps_stp0 rfl rfl (by decide) (stp_move (.inr rfl) rfl) ?_; refine awps_nil ?_; refine inQ_nil ?_; refine thenQ_nil ?_; refine ⟨?_, e2, ?_, ?_⟩
        · skip
          omega
        · skip
          exact hst
        exact sub_re (SubT.cons (lk_eq rfl (by first | rfl | simp)) (SubT.cons (lk_eq rfl (by first | rfl | simp)) (SubT.cons (lk_eq rfl (by first | rfl | simp)) (SubT.cons (lk_eq rfl (by first | rfl | simp)) (SubT.cons (lk_eq rfl (by first | rfl | simp)) (SubT.nil)))))) (SubO.cons (ok_eq rfl (by rw [tmDs_snoc]; rfl)) (SubO.nil)) rfl rfl (noL' (noL hL) _)
      try simp only [↓cqA, cqB] at c1
      refine awp_seq ?_
      have hst2 : mrg (a.drop e.1.1) (b.drop e.1.2) = v :: mrg (a.drop e.1.1) (b.drop (e.1.2 + 1)) := by first | exact hstep | exact mrg_eB hv (.inr ⟨u, hu, by omega⟩)
      let e2 : (Nat × Nat) × List Tm := ((e.1.1, e.1.2 + 1), e.2 ++ [v])
      have hst : e2.1.1 + e2.1.2 = r + 1 ∧ e2.1.1 ≤ a.length ∧ e2.1.2 ≤ b.length ∧ e2.2.length = r + 1 ∧ e2.2 ++ mrg (a.drop e2.1.1) (b.drop e2.1.2) = mrg a b := ⟨by simp only [e2]; omega, hi, by have := (List.getElem?_eq_some_iff.1 hv).1; simp only [e2]; omega, by simp only [e2, List.length_append, List.length_singleton]; omega, by rw [← hm, hst2]; simp [e2]⟩
      refine awp_region ?_; refine awps_stp0 rfl rfl (by decide) (stp_move (.inl rfl) rfl) ?_; refine awps_stp0 rfl rfl (by decide) (stp_move (.inl rfl) rfl) ?_; refine awps_stp0 rfl rfl (by decide) (stp_move (.inl rfl) rfl) ?_
      first | refine awps_stp0 rfl rfl (by decide) (stp_indexAddr rfl sl_S_api_Term rfl rfl (by omega) (tmDs_get hv)) ?_ | refine awps_stp0 rfl rfl (by decide) (stp_indexAddr_rowd rfl sl_S_api_Term rfl rfl rfl (by omega) (tmDs_get hv)) ?_ | refine awps_stp0 rfl rfl (by decide) (stp_indexAddr_row rfl sl_S_api_Term rfl rfl rfl (by omega) (tmDs_get hv) (by decide)) ?_
      first | refine awps_stp0 rfl rfl (by decide) (stp_load_all rfl tf_api_Term rfl rfl rfl rfl) ?_ | refine awps_stp0 rfl rfl (by decide) (stp_load rfl tf_api_Term rfl rfl rfl rfl rfl) ?_ | refine awps_stp0 rfl rfl (by decide) (stp_load_elpa rfl tf_api_Term rfl rfl) ?_ | refine awps_stp0 rfl rfl (by decide) (stp_load_elpn rfl tf_api_Term rfl rfl rfl) ?_
      refine awps_stp1 rfl rfl (by decide) (stp_buildSlice 54 rfl sl_S_api_Term zv_api_Term rfl rfl (by decide) (by decide) (by decide) rfl rfl rfl) rfl ?_
      first | refine awps_u rfl rfl (by decide) (stpU_append1 55 ta_S_api_Term rfl rfl rfl rfl rfl rfl rfl rfl (noL hL _) (by omega) rfl) rfl ?_ | refine awps_u rfl rfl (by decide) (stpU_appendd 55 ta_S_api_Term rfl rfl rfl rfl rfl (noL hL _) (by simp) (by omega) rfl) rfl ?_ | refine awps_u rfl rfl (by decide) (stpU_appendi 55 ta_S_api_Term rfl rfl rfl rfl (rfl) rfl (noL hL _) (by simp) (by omega) rfl) rfl ?_
      refine awps_stp0 rfl rfl (by decide) (stp_move (.inr rfl) rfl) ?_; refine awps_nil ?_; refine thenQ_nil ?_; refine awp_sub (sub_rename 55 5 (noL hL _) (noL hL _)) ?_; refine awp_region ?_; refine awps_stp0 rfl rfl (by decide) (stp_move (.inl rfl) rfl) ?_; refine awps_stp0 rfl rfl (by decide) (stp_add rfl rfl rfl (by omega)) ?_
      refine awps_stp0 rfl rfl (by decide) (stp_move (.inr rfl) rfl) ?_; refine awps_nil ?_; refine inQ_nil ?_; refine thenQ_nil ?_; refine ⟨?_, e2, ?_, ?_⟩
      · skip
        omega
      · skip
        exact hst
      exact sub_re (SubT.cons (lk_eq rfl (by first | rfl | simp)) (SubT.cons (lk_eq rfl (by first | rfl | simp)) (SubT.cons (lk_eq rfl (by first | rfl | simp)) (SubT.cons (lk_eq rfl (by first | rfl | simp)) (SubT.cons (lk_eq rfl (by first | rfl | simp)) (SubT.nil)))))) (SubO.cons (ok_eq rfl (by rw [tmDs_snoc]; rfl)) (SubO.nil)) rfl rfl (noL' (noL hL) _)
    have m26 := l26
    try simp only [↓cqA, cqB] at m26
    have hstep := mrg_eB (a := a) (i := e.1.1) hv (.inl (by omega))
    refine awp_drawG 18 mixed rfl rfl rfl rfl ?_; refine MGo_c0 rfl (by decide) (.run rfl (stp_move (.inl rfl) rfl)) ?_; refine MGo_c0 rfl (by decide) (.run rfl (stp_move (.inl rfl) rfl)) ?_
    first | refine MGo_c0 rfl (by decide) (.run rfl (stp_len_dat rfl sl_S_api_Term rfl)) ?_ | refine MGo_c0 rfl (by decide) (.run rfl (stp_len_rowd rfl sl_S_api_Term rfl rfl)) ?_ | refine MGo_c0 rfl (by decide) (.run rfl (stp_len_nil rfl sl_S_api_Term rfl)) ?_ | refine MGo_c0 rfl (by decide) (.run rfl (stp_len_vw rfl sl_S_api_Term rfl)) ?_
    refine MGo_c0 rfl (by decide) (.run rfl (stp_binI (r := .bool false) rfl rfl rfl (congrArg (fun b => some (Value.bool b)) l21))) ?_; refine MGo_c0 rfl (by decide) (.run rfl (stp_move (.inl rfl) rfl)) ?_; refine MGo_c0 rfl (by decide) (.want rfl rfl rfl (by decide) (stp_move (.inl rfl) rfl)) ?_; refine MGo_c0 rfl (by decide) (.want rfl rfl rfl (by decide) (stp_move (.inl rfl) rfl)) ?_
    first | refine MGo_c0 rfl (by decide) (.want rfl rfl rfl (by decide) (stp_len_dat rfl sl_S_api_Term rfl)) ?_ | refine MGo_c0 rfl (by decide) (.want rfl rfl rfl (by decide) (stp_len_rowd rfl sl_S_api_Term rfl rfl)) ?_ | refine MGo_c0 rfl (by decide) (.want rfl rfl rfl (by decide) (stp_len_nil rfl sl_S_api_Term rfl)) ?_ | refine MGo_c0 rfl (by decide) (.want rfl rfl rfl (by decide) (stp_len_vw rfl sl_S_api_Term rfl)) ?_
    refine MGo_c0 rfl (by decide) (.want rfl rfl rfl (by decide) (stp_binI (r := .bool false) rfl rfl rfl (congrArg (fun b => some (Value.bool b)) l26))) ?_; refine MGo_c0 rfl (by decide) (.want rfl rfl rfl (by decide) (stp_move (.inl rfl) rfl)) ?_; refine MGo_c0 rfl (by decide) (.skip rfl rfl rfl (by decide) (by decide)) ?_
    refine MGo_c0 rfl (by decide) (.skip rfl rfl rfl (by decide) (by decide)) ?_; refine MGo_c0 rfl (by decide) (.skip rfl rfl rfl (by decide) (by decide)) ?_; refine MGo_c0 rfl (by decide) (.skip rfl rfl rfl (by decide) (by decide)) ?_; refine MGo_c0 rfl (by decide) (.skip rfl rfl rfl (by decide) (by decide)) ?_; refine MGo_c0 rfl (by decide) (.skip rfl rfl rfl (by decide) (by decide)) ?_
    refine MGo_c0 rfl (by decide) (.skip rfl rfl rfl (by decide) (by decide)) ?_; refine MGo_c0 rfl (by decide) (.skip rfl rfl rfl (by decide) (by decide)) ?_; refine MGo_nil ⟨rfl, rfl, ?_⟩; refine awps_gs rfl rfl rfl rfl (by decide) rfl (by decide) ?_; refine awps_gs rfl rfl rfl rfl (by decide) rfl (by decide) ?_; refine awps_g0 rfl rfl rfl (by decide) rfl (by decide) (stp_pick rfl rfl rfl) ?_
    refine awps_stp0 rfl rfl (by decide) (stp_pick rfl rfl rfl) ?_; refine awps_nil ?_; refine thenQ_nil ?_; refine awp_condF rfl ?_; refine awp_seq ?_
    have hst2 : mrg (a.drop e.1.1) (b.drop e.1.2) = v :: mrg (a.drop e.1.1) (b.drop (e.1.2 + 1)) := by first | exact hstep | exact mrg_eB hv (.inr ⟨u, hu, by omega⟩)
    let e2 : (Nat × Nat) × List Tm := ((e.1.1, e.1.2 + 1), e.2 ++ [v])
    have hst : e2.1.1 + e2.1.2 = r + 1 ∧ e2.1.1 ≤ a.length ∧ e2.1.2 ≤ b.length ∧ e2.2.length = r + 1 ∧ e2.2 ++ mrg (a.drop e2.1.1) (b.drop e2.1.2) = mrg a b := ⟨by simp only [e2]; omega, hi, by have := (List.getElem?_eq_some_iff.1 hv).1; simp only [e2]; omega, by simp only [e2, List.length_append, List.length_singleton]; omega, by rw [← hm, hst2]; simp [e2]⟩
    refine awp_region ?_; refine awps_stp0 rfl rfl (by decide) (stp_move (.inl rfl) rfl) ?_; refine awps_stp0 rfl rfl (by decide) (stp_move (.inl rfl) rfl) ?_; refine awps_stp0 rfl rfl (by decide) (stp_move (.inl rfl) rfl) ?_
    first | refine awps_stp0 rfl rfl (by decide) (stp_indexAddr rfl sl_S_api_Term rfl rfl (by omega) (tmDs_get hv)) ?_ | refine awps_stp0 rfl rfl (by decide) (stp_indexAddr_rowd rfl sl_S_api_Term rfl rfl rfl (by omega) (tmDs_get hv)) ?_ | refine awps_stp0 rfl rfl (by decide) (stp_indexAddr_row rfl sl_S_api_Term rfl rfl rfl (by omega) (tmDs_get hv) (by decide)) ?_
    first | refine awps_stp0 rfl rfl (by decide) (stp_load_all rfl tf_api_Term rfl rfl rfl rfl) ?_ | refine awps_stp0 rfl rfl (by decide) (stp_load rfl tf_api_Term rfl rfl rfl rfl rfl) ?_ | refine awps_stp0 rfl rfl (by decide) (stp_load_elpa rfl tf_api_Term rfl rfl) ?_ | refine awps_stp0 rfl rfl (by decide) (stp_load_elpn rfl tf_api_Term rfl rfl rfl) ?_
    refine awps_stp1 rfl rfl (by decide) (stp_buildSlice 54 rfl sl_S_api_Term zv_api_Term rfl rfl (by decide) (by decide) (by decide) rfl rfl rfl) rfl ?_
    first | refine awps_u rfl rfl (by decide) (stpU_append1 55 ta_S_api_Term rfl rfl rfl rfl rfl rfl rfl rfl (noL hL _) (by omega) rfl) rfl ?_ | refine awps_u rfl rfl (by decide) (stpU_appendd 55 ta_S_api_Term rfl rfl rfl rfl rfl (noL hL _) (by simp) (by omega) rfl) rfl ?_ | refine awps_u rfl rfl (by decide) (stpU_appendi 55 ta_S_api_Term rfl rfl rfl rfl (rfl) rfl (noL hL _) (by simp) (by omega) rfl) rfl ?_
    refine awps_stp0 rfl rfl (by decide) (stp_move (.inr rfl) rfl) ?_; refine awps_nil ?_; refine thenQ_nil ?_; refine awp_sub (sub_rename 55 5 (noL hL _) (noL hL _)) ?_; refine awp_region ?_; refine awps_stp0 rfl rfl (by decide) (stp_move (.inl rfl) rfl) ?_; refine awps_stp0 rfl rfl (by decide) (stp_add rfl rfl rfl (by omega)) ?_
    refine awps_stp0 rfl rfl (by decide) (stp_move (.inr rfl) rfl) ?_; refine awps_nil ?_; refine inQ_nil ?_; refine thenQ_nil ?_; refine ⟨?_, e2, ?_, ?_⟩
    · skip
      omega
    · skip
      exact hst
    exact sub_re (SubT.cons (lk_eq rfl (by first | rfl | simp)) (SubT.cons (lk_eq rfl (by first | rfl | simp)) (SubT.cons (lk_eq rfl (by first | rfl | simp)) (SubT.cons (lk_eq rfl (by first | rfl | simp)) (SubT.cons (lk_eq rfl (by first | rfl | simp)) (SubT.nil)))))) (SubO.cons (ok_eq rfl (by rw [tmDs_snoc]; rfl)) (SubO.nil)) rfl rfl (noL' (noL hL) _)
  try simp only [↓cqA, cqB] at g12
  refine awps_g0 rfl rfl rfl (by decide) rfl (by decide) (stp_move (.inl rfl) rfl) ?_; refine awps_g0 rfl rfl rfl (by decide) rfl (by decide) (stp_move (.inl rfl) rfl) ?_
  first | refine awps_g0 rfl rfl rfl (by decide) rfl (by decide) (stp_len_dat rfl sl_S_api_Term rfl) ?_ | refine awps_g0 rfl rfl rfl (by decide) rfl (by decide) (stp_len_rowd rfl sl_S_api_Term rfl rfl) ?_ | refine awps_g0 rfl rfl rfl (by decide) rfl (by decide) (stp_len_nil rfl sl_S_api_Term rfl) ?_ | refine awps_g0 rfl rfl rfl (by decide) rfl (by decide) (stp_len_vw rfl sl_S_api_Term rfl) ?_
  refine awps_g0 rfl rfl rfl (by decide) rfl (by decide) (stp_binI rfl rfl rfl rfl) ?_; refine awps_stp0 rfl rfl (by decide) (stp_pick rfl rfl rfl) ?_; refine awps_nil ?_; refine thenQ_nil ?_; refine awp_cond rfl (fun c0 => ?_) (fun c0 => ?_)
  · try simp only [↓cqA, cqB] at c0
    refine awp_skip ?_; refine thenQ_nil ?_; refine awp_block ?_; refine awp_seq ?_
    rcases Bool.eq_false_or_eq_true (((e.1.2 : Int) == ((tmDs b).length : Int))) with l21 | l21
    · have m21 := l21
      try simp only [↓cqA, cqB] at m21
      obtain ⟨u, hu⟩ := get_of_lt (l := a) (k := e.1.1) (by omega)
      have hstep := mrg_eA (b := b) (k := e.1.2) hu (.inl (by omega))
      refine awp_drawG 18 mixed rfl rfl rfl rfl ?_; refine MGo_c0 rfl (by decide) (.run rfl (stp_move (.inl rfl) rfl)) ?_; refine MGo_c0 rfl (by decide) (.run rfl (stp_move (.inl rfl) rfl)) ?_
      first | refine MGo_c0 rfl (by decide) (.run rfl (stp_len_dat rfl sl_S_api_Term rfl)) ?_ | refine MGo_c0 rfl (by decide) (.run rfl (stp_len_rowd rfl sl_S_api_Term rfl rfl)) ?_ | refine MGo_c0 rfl (by decide) (.run rfl (stp_len_nil rfl sl_S_api_Term rfl)) ?_ | refine MGo_c0 rfl (by decide) (.run rfl (stp_len_vw rfl sl_S_api_Term rfl)) ?_
      refine MGo_c0 rfl (by decide) (.run rfl (stp_binI (r := .bool true) rfl rfl rfl (congrArg (fun b => some (Value.bool b)) l21))) ?_; refine MGo_c0 rfl (by decide) (.run rfl (stp_move (.inl rfl) rfl)) ?_; refine MGo_c0 rfl (by decide) (.skip rfl rfl rfl (by decide) (by decide)) ?_; refine MGo_c0 rfl (by decide) (.skip rfl rfl rfl (by decide) (by decide)) ?_
      refine MGo_c0 rfl (by decide) (.skip rfl rfl rfl (by decide) (by decide)) ?_; refine MGo_c0 rfl (by decide) (.skip rfl rfl rfl (by decide) (by decide)) ?_; refine MGo_c0 rfl (by decide) (.skip rfl rfl rfl (by decide) (by decide)) ?_; refine MGo_c0 rfl (by decide) (.skipu rfl rfl rfl (by decide)) ?_; refine MGo_c0 rfl (by decide) (.skipu rfl rfl rfl (by decide)) ?_
      refine MGo_c0 rfl (by decide) (.skipu rfl rfl rfl (by decide)) ?_; refine MGo_c0 rfl (by decide) (.skipu rfl rfl rfl (by decide)) ?_; refine MGo_c0 rfl (by decide) (.skipu rfl rfl rfl (by decide)) ?_; refine MGo_c0 rfl (by decide) (.skipu rfl rfl rfl (by decide)) ?_; refine MGo_c0 rfl (by decide) (.skipu rfl rfl rfl (by decide)) ?_
      refine MGo_c0 rfl (by decide) (.skipu rfl rfl rfl (by decide)) ?_; refine MGo_nil ⟨rfl, rfl, ?_⟩; refine awps_gu rfl rfl rfl (by decide) rfl (by decide) ?_; refine awps_gu rfl rfl rfl (by decide) rfl (by decide) ?_; refine awps_gs rfl rfl rfl rfl (by decide) rfl (by decide) ?_; refine awps_stp0 rfl rfl (by decide) (stp_pick rfl rfl rfl) ?_; refine awps_nil ?_; refine thenQ_nil ?_
      refine awp_condT rfl ?_; refine awp_seq ?_
      have hst2 : mrg (a.drop e.1.1) (b.drop e.1.2) = u :: mrg (a.drop (e.1.1 + 1)) (b.drop e.1.2) := by first | exact hstep | exact mrg_eA hu (.inr ⟨v, hv, by omega⟩)
      let e2 : (Nat × Nat) × List Tm := ((e.1.1 + 1, e.1.2), e.2 ++ [u])
      have hst : e2.1.1 + e2.1.2 = r + 1 ∧ e2.1.1 ≤ a.length ∧ e2.1.2 ≤ b.length ∧ e2.2.length = r + 1 ∧ e2.2 ++ mrg (a.drop e2.1.1) (b.drop e2.1.2) = mrg a b := ⟨by simp only [e2]; omega, by have := (List.getElem?_eq_some_iff.1 hu).1; simp only [e2]; omega, hk2, by simp only [e2, List.length_append, List.length_singleton]; omega, by rw [← hm, hst2]; simp [e2]⟩
      refine awp_region ?_; refine awps_stp0 rfl rfl (by decide) (stp_move (.inl rfl) rfl) ?_; refine awps_stp0 rfl rfl (by decide) (stp_move (.inl rfl) rfl) ?_; refine awps_stp0 rfl rfl (by decide) (stp_move (.inl rfl) rfl) ?_
      first | refine awps_stp0 rfl rfl (by decide) (stp_indexAddr rfl sl_S_api_Term rfl rfl (by omega) (tmDs_get hu)) ?_ | refine awps_stp0 rfl rfl (by decide) (stp_indexAddr_rowd rfl sl_S_api_Term rfl rfl rfl (by omega) (tmDs_get hu)) ?_ | refine awps_stp0 rfl rfl (by decide) (stp_indexAddr_row rfl sl_S_api_Term rfl rfl rfl (by omega) (tmDs_get hu) (by decide)) ?_
      first | refine awps_stp0 rfl rfl (by decide) (stp_load_all rfl tf_api_Term rfl rfl rfl rfl) ?_ | refine awps_stp0 rfl rfl (by decide) (stp_load rfl tf_api_Term rfl rfl rfl rfl rfl) ?_ | refine awps_stp0 rfl rfl (by decide) (stp_load_elpa rfl tf_api_Term rfl rfl) ?_ | refine awps_stp0 rfl rfl (by decide) (stp_load_elpn rfl tf_api_Term rfl rfl rfl) ?_
      refine awps_stp1 rfl rfl (by decide) (stp_buildSlice 45 rfl sl_S_api_Term zv_api_Term rfl rfl (by decide) (by decide) (by decide) rfl rfl rfl) rfl ?_
      first | refine awps_u rfl rfl (by decide) (stpU_append1 46 ta_S_api_Term rfl rfl rfl rfl rfl rfl rfl rfl (noL hL _) (by omega) rfl) rfl ?_ | refine awps_u rfl rfl (by decide) (stpU_appendd 46 ta_S_api_Term rfl rfl rfl rfl rfl (noL hL _) (by simp) (by omega) rfl) rfl ?_ | refine awps_u rfl rfl (by decide) (stpU_appendi 46 ta_S_api_Term rfl rfl rfl rfl (rfl) rfl (noL hL _) (by simp) (by omega) rfl) rfl ?_
      refine awps_stp0 rfl rfl (by decide) (stp_move (.inr rfl) rfl) ?_; refine awps_nil ?_; refine thenQ_nil ?_; refine awp_sub (sub_rename 46 5 (noL hL _) (noL hL _)) ?_; refine awp_region ?_; refine awps_stp0 rfl rfl (by decide) (stp_move (.inl rfl) rfl) ?_; refine awps_stp0 rfl rfl (by decide) (stp_add rfl rfl rfl (by omega)) ?_
      refine awps_stp0 rfl rfl (by decide) (stp_move (.inr rfl) rfl) ?_; refine awps_nil ?_; refine inQ_nil ?_; refine thenQ_nil ?_; refine ⟨?_, e2, ?_, ?_⟩
      · skip
        omega
      · skip
        exact hst
      exact sub_re (SubT.cons (lk_eq rfl (by first | rfl | simp)) (SubT.cons (lk_eq rfl (by first | rfl | simp)) (SubT.cons (lk_eq rfl (by first | rfl | simp)) (SubT.cons (lk_eq rfl (by first | rfl | simp)) (SubT.cons (lk_eq rfl (by first | rfl | simp)) (SubT.nil)))))) (SubO.cons (ok_eq rfl (by rw [tmDs_snoc]; rfl)) (SubO.nil)) rfl rfl (noL' (noL hL) _)
    have m21 := l21
    try simp only [↓cqA, cqB] at m21
    obtain ⟨v, hv⟩ := get_of_lt (l := b) (k := e.1.2) (by omega)
    rcases Bool.eq_false_or_eq_true (decide ((e.1.1 : Int) < ((tmDs a).length : Int))) with l26 | l26
    · have m26 := l26
      try simp only [↓cqA, cqB] at m26
      obtain ⟨u, hu⟩ := get_of_lt (l := a) (k := e.1.1) (by omega)
      have hum := List.mem_of_getElem? hu
      refine awp_drawG 18 mixed rfl rfl rfl rfl ?_; refine MGo_c0 rfl (by decide) (.run rfl (stp_move (.inl rfl) rfl)) ?_; refine MGo_c0 rfl (by decide) (.run rfl (stp_move (.inl rfl) rfl)) ?_
      first | refine MGo_c0 rfl (by decide) (.run rfl (stp_len_dat rfl sl_S_api_Term rfl)) ?_ | refine MGo_c0 rfl (by decide) (.run rfl (stp_len_rowd rfl sl_S_api_Term rfl rfl)) ?_ | refine MGo_c0 rfl (by decide) (.run rfl (stp_len_nil rfl sl_S_api_Term rfl)) ?_ | refine MGo_c0 rfl (by decide) (.run rfl (stp_len_vw rfl sl_S_api_Term rfl)) ?_
      refine MGo_c0 rfl (by decide) (.run rfl (stp_binI (r := .bool false) rfl rfl rfl (congrArg (fun b => some (Value.bool b)) l21))) ?_; refine MGo_c0 rfl (by decide) (.run rfl (stp_move (.inl rfl) rfl)) ?_; refine MGo_c0 rfl (by decide) (.want rfl rfl rfl (by decide) (stp_move (.inl rfl) rfl)) ?_; refine MGo_c0 rfl (by decide) (.want rfl rfl rfl (by decide) (stp_move (.inl rfl) rfl)) ?_
      first | refine MGo_c0 rfl (by decide) (.want rfl rfl rfl (by decide) (stp_len_dat rfl sl_S_api_Term rfl)) ?_ | refine MGo_c0 rfl (by decide) (.want rfl rfl rfl (by decide) (stp_len_rowd rfl sl_S_api_Term rfl rfl)) ?_ | refine MGo_c0 rfl (by decide) (.want rfl rfl rfl (by decide) (stp_len_nil rfl sl_S_api_Term rfl)) ?_ | refine MGo_c0 rfl (by decide) (.want rfl rfl rfl (by decide) (stp_len_vw rfl sl_S_api_Term rfl)) ?_
      refine MGo_c0 rfl (by decide) (.want rfl rfl rfl (by decide) (stp_binI (r := .bool true) rfl rfl rfl (congrArg (fun b => some (Value.bool b)) l26))) ?_; refine MGo_c0 rfl (by decide) (.want rfl rfl rfl (by decide) (stp_move (.inl rfl) rfl)) ?_; refine MGo_c0 rfl (by decide) (.want rfl rfl rfl (by decide) (stp_move (.inl rfl) rfl)) ?_
      refine MGo_c0 rfl (by decide) (.want rfl rfl rfl (by decide) (stp_move (.inl rfl) rfl)) ?_
      first | refine MGo_c0 rfl (by decide) (.want rfl rfl rfl (by decide) (stp_indexAddr rfl sl_S_api_Term rfl rfl (by omega) (tmDs_get hu))) ?_ | refine MGo_c0 rfl (by decide) (.want rfl rfl rfl (by decide) (stp_indexAddr_rowd rfl sl_S_api_Term rfl rfl rfl (by omega) (tmDs_get hu))) ?_ | refine MGo_c0 rfl (by decide) (.want rfl rfl rfl (by decide) (stp_indexAddr_row rfl sl_S_api_Term rfl rfl rfl (by omega) (tmDs_get hu) (by decide))) ?_
      first | refine MGo_c0 rfl (by decide) (.want rfl rfl rfl (by decide) (stp_load_all rfl tf_api_Term rfl rfl rfl rfl)) ?_ | refine MGo_c0 rfl (by decide) (.want rfl rfl rfl (by decide) (stp_load rfl tf_api_Term rfl rfl rfl rfl rfl)) ?_ | refine MGo_c0 rfl (by decide) (.want rfl rfl rfl (by decide) (stp_load_elpa rfl tf_api_Term rfl rfl)) ?_ | refine MGo_c0 rfl (by decide) (.want rfl rfl rfl (by decide) (stp_load_elpn rfl tf_api_Term rfl rfl rfl)) ?_
      refine MGo_c0 rfl (by decide) (.want rfl rfl rfl (by decide) (stp_move (.inl rfl) rfl)) ?_; refine MGo_c0 rfl (by decide) (.want rfl rfl rfl (by decide) (stp_move (.inl rfl) rfl)) ?_
      first | refine MGo_c0 rfl (by decide) (.want rfl rfl rfl (by decide) (stp_indexAddr rfl sl_S_api_Term rfl rfl (by omega) (tmDs_get hv))) ?_ | refine MGo_c0 rfl (by decide) (.want rfl rfl rfl (by decide) (stp_indexAddr_rowd rfl sl_S_api_Term rfl rfl rfl (by omega) (tmDs_get hv))) ?_ | refine MGo_c0 rfl (by decide) (.want rfl rfl rfl (by decide) (stp_indexAddr_row rfl sl_S_api_Term rfl rfl rfl (by omega) (tmDs_get hv) (by decide))) ?_
      first | refine MGo_c0 rfl (by decide) (.want rfl rfl rfl (by decide) (stp_load_all rfl tf_api_Term rfl rfl rfl rfl)) ?_ | refine MGo_c0 rfl (by decide) (.want rfl rfl rfl (by decide) (stp_load rfl tf_api_Term rfl rfl rfl rfl rfl)) ?_ | refine MGo_c0 rfl (by decide) (.want rfl rfl rfl (by decide) (stp_load_elpa rfl tf_api_Term rfl rfl)) ?_ | refine MGo_c0 rfl (by decide) (.want rfl rfl rfl (by decide) (stp_load_elpn rfl tf_api_Term rfl rfl rfl)) ?_
      refine MGo_nil ⟨rfl, rfl, ?_⟩; refine awps_g0 rfl rfl rfl (by decide) rfl (by decide) (stp_call (avs := [_, _]) true rfl en_almagestref1_Order rfl rfl (Order_ok 5 u v (hda u hum) (hwa u hum) (hwb v (List.mem_of_getElem? hv))) (fun _ => rfl) rfl) ?_; refine awps_g0 rfl rfl rfl (by decide) rfl (by decide) (stp_binI rfl rfl rfl rfl) ?_
      refine awps_g0 rfl rfl rfl (by decide) rfl (by decide) (stp_pick rfl rfl rfl) ?_; refine awps_stp0 rfl rfl (by decide) (stp_pick rfl rfl rfl) ?_; refine awps_nil ?_; refine thenQ_nil ?_; refine awp_cond rfl (fun c1 => ?_) (fun c1 => ?_)
      · try simp only [↓cqA, cqB] at c1
        refine awp_seq ?_
        have hst2 : mrg (a.drop e.1.1) (b.drop e.1.2) = u :: mrg (a.drop (e.1.1 + 1)) (b.drop e.1.2) := by first | exact hstep | exact mrg_eA hu (.inr ⟨v, hv, by omega⟩)
        let e2 : (Nat × Nat) × List Tm := ((e.1.1 + 1, e.1.2), e.2 ++ [u])
        have hst : e2.1.1 + e2.1.2 = r + 1 ∧ e2.1.1 ≤ a.length ∧ e2.1.2 ≤ b.length ∧ e2.2.length = r + 1 ∧ e2.2 ++ mrg (a.drop e2.1.1) (b.drop e2.1.2) = mrg a b := ⟨by simp only [e2]; omega, by have := (List.getElem?_eq_some_iff.1 hu).1; simp only [e2]; omega, hk2, by simp only [e2, List.length_append, List.length_singleton]; omega, by rw [← hm, hst2]; simp [e2]⟩
        refine awp_region ?_; refine awps_stp0 rfl rfl (by decide) (stp_move (.inl rfl) rfl) ?_; refine awps_stp0 rfl rfl (by decide) (stp_move (.inl rfl) rfl) ?_; refine awps_stp0 rfl rfl (by decide) (stp_move (.inl rfl) rfl) ?_
        first | refine awps_stp0 rfl rfl (by decide) (stp_indexAddr rfl sl_S_api_Term rfl rfl (by omega) (tmDs_get hu)) ?_ | refine awps_stp0 rfl rfl (by decide) (stp_indexAddr_rowd rfl sl_S_api_Term rfl rfl rfl (by omega) (tmDs_get hu)) ?_ | refine awps_stp0 rfl rfl (by decide) (stp_indexAddr_row rfl sl_S_api_Term rfl rfl rfl (by omega) (tmDs_get hu) (by decide)) ?_
        first | refine awps_stp0 rfl rfl (by decide) (stp_load_all rfl tf_api_Term rfl rfl rfl rfl) ?_ | refine awps_stp0 rfl rfl (by decide) (stp_load rfl tf_api_Term rfl rfl rfl rfl rfl) ?_ | refine awps_stp0 rfl rfl (by decide) (stp_load_elpa rfl tf_api_Term rfl rfl) ?_ | refine awps_stp0 rfl rfl (by decide) (stp_load_elpn rfl tf_api_Term rfl rfl rfl) ?_
        refine awps_stp1 rfl rfl (by decide) (stp_buildSlice 45 rfl sl_S_api_Term zv_api_Term rfl rfl (by decide) (by decide) (by decide) rfl rfl rfl) rfl ?_
        first | refine awps_u rfl rfl (by decide) (stpU_append1 46 ta_S_api_Term rfl rfl rfl rfl rfl rfl rfl rfl (noL hL _) (by omega) rfl) rfl ?_ | refine awps_u rfl rfl (by decide) (stpU_appendd 46 ta_S_api_Term rfl rfl rfl rfl rfl (noL hL _) (by simp) (by omega) rfl) rfl ?_ | refine awps_u rfl rfl (by decide) (stpU_appendi 46 ta_S_api_Term rfl rfl rfl rfl (rfl) rfl (noL hL _) (by simp) (by omega) rfl) rfl ?_
        refine awps_stp0 rfl rfl (by decide) (stp_move (.inr rfl) rfl) ?_; refine awps_nil ?_; refine thenQ_nil ?_; refine awp_sub (sub_rename 46 5 (noL hL _) (noL hL _)) ?_; refine awp_region ?_; refine awps_stp0 rfl rfl (by decide) (stp_move (.inl rfl) rfl) ?_; refine awps_stp0 rfl rfl (by decide) (stp_add rfl rfl rfl (by omega)) ?_
        refine awps_stp0 rfl rfl (by decide) (stp_move (.inr rfl) rfl) ?_; refine awps_nil ?_; refine inQ_nil ?_; refine thenQ_nil ?_; refine ⟨?_, e2, ?_, ?_⟩
        · skip
          omega
        · skip
          exact hst
        exact sub_re (SubT.cons (lk_eq rfl (by first | rfl | simp)) (SubT.cons (lk_eq rfl (by first | rfl | simp)) (SubT.cons (lk_eq rfl (by first | rfl | simp)) (SubT.cons (lk_eq rfl (by first | rfl | simp)) (SubT.cons (lk_eq rfl (by first | rfl | simp)) (SubT.nil)))))) (SubO.cons (ok_eq rfl (by rw [tmDs_snoc]; rfl)) (SubO.nil)) rfl rfl (noL' (noL hL) _)
      try simp only [↓cqA, cqB] at c1
      refine awp_seq ?_
      have hst2 : mrg (a.drop e.1.1) (b.drop e.1.2) = v :: mrg (a.drop e.1.1) (b.drop (e.1.2 + 1)) := by first | exact hstep | exact mrg_eB hv (.inr ⟨u, hu, by omega⟩)
      let e2 : (Nat × Nat) × List Tm := ((e.1.1, e.1.2 + 1), e.2 ++ [v])
      have hst : e2.1.1 + e2.1.2 = r + 1 ∧ e2.1.1 ≤ a.length ∧ e2.1.2 ≤ b.length ∧ e2.2.length = r + 1 ∧ e2.2 ++ mrg (a.drop e2.1.1) (b.drop e2.1.2) = mrg a b := ⟨by simp only [e2]; omega, hi, by have := (List.getElem?_eq_some_iff.1 hv).1; simp only [e2]; omega, by simp only [e2, List.length_append, List.length_singleton]; omega, by rw [← hm, hst2]; simp [e2]⟩
      refine awp_region ?_; refine awps_stp0 rfl rfl (by decide) (stp_move (.inl rfl) rfl) ?_; refine awps_stp0 rfl rfl (by decide) (stp_move (.inl rfl) rfl) ?_; refine awps_stp0 rfl rfl (by decide) (stp_move (.inl rfl) rfl) ?_
      first | refine awps_stp0 rfl rfl (by decide) (stp_indexAddr rfl sl_S_api_Term rfl rfl (by omega) (tmDs_get hv)) ?_ | refine awps_stp0 rfl rfl (by decide) (stp_indexAddr_rowd rfl sl_S_api_Term rfl rfl rfl (by omega) (tmDs_get hv)) ?_ | refine awps_stp0 rfl rfl (by decide) (stp_indexAddr_row rfl sl_S_api_Term rfl rfl rfl (by omega) (tmDs_get hv) (by decide)) ?_
      first | refine awps_stp0 rfl rfl (by decide) (stp_load_all rfl tf_api_Term rfl rfl rfl rfl) ?_ | refine awps_stp0 rfl rfl (by decide) (stp_load rfl tf_api_Term rfl rfl rfl rfl rfl) ?_ | refine awps_stp0 rfl rfl (by decide) (stp_load_elpa rfl tf_api_Term rfl rfl) ?_ | refine awps_stp0 rfl rfl (by decide) (stp_load_elpn rfl tf_api_Term rfl rfl rfl) ?_
      refine awps_stp1 rfl rfl (by decide) (stp_buildSlice 54 rfl sl_S_api_Term zv_api_Term rfl rfl (by decide) (by decide) (by decide) rfl rfl rfl) rfl ?_
      first | refine awps_u rfl rfl (by decide) (stpU_append1 55 ta_S_api_Term rfl rfl rfl rfl rfl rfl rfl rfl (noL hL _) (by omega) rfl) rfl ?_ | refine awps_u rfl rfl (by decide) (stpU_appendd 55 ta_S_api_Term rfl rfl rfl rfl rfl (noL hL _) (by simp) (by omega) rfl) rfl ?_ | refine awps_u rfl rfl (by decide) (stpU_appendi 55 ta_S_api_Term rfl rfl rfl rfl (rfl) rfl (noL hL _) (by simp) (by omega) rfl) rfl ?_
      refine awps_stp0 rfl rfl (by decide) (stp_move (.inr rfl) rfl) ?_; refine awps_nil ?_; refine thenQ_nil ?_; refine awp_sub (sub_rename 55 5 (noL hL _) (noL hL _)) ?_; refine awp_region ?_; refine awps_stp0 rfl rfl (by decide) (stp_move (.inl rfl) rfl) ?_; refine awps_stp0 rfl rfl (by decide) (stp_add rfl rfl rfl (by omega)) ?_
      refine awps_stp0 rfl rfl (by decide) (stp_move (.inr rfl) rfl) ?_; refine awps_nil ?_; refine inQ_nil ?_; refine thenQ_nil ?_; refine ⟨?_, e2, ?_, ?_⟩
      · skip
        omega
      · skip
        exact hst
      exact sub_re (SubT.cons (lk_eq rfl (by first | rfl | simp)) (SubT.cons (lk_eq rfl (by first | rfl | simp)) (SubT.cons (lk_eq rfl (by first | rfl | simp)) (SubT.cons (lk_eq rfl (by first | rfl | simp)) (SubT.cons (lk_eq rfl (by first | rfl | simp)) (SubT.nil)))))) (SubO.cons (ok_eq rfl (by rw [tmDs_snoc]; rfl)) (SubO.nil)) rfl rfl (noL' (noL hL) _)
    have m26 := l26
    try simp only [↓cqA, cqB] at m26
    have hstep := mrg_eB (a := a) (i := e.1.1) hv (.inl (by omega))
    refine awp_drawG 18 mixed rfl rfl rfl rfl ?_; refine MGo_c0 rfl (by decide) (.run rfl (stp_move (.inl rfl) rfl)) ?_; refine MGo_c0 rfl (by decide) (.run rfl (stp_move (.inl rfl) rfl)) ?_
    first | refine MGo_c0 rfl (by decide) (.run rfl (stp_len_dat rfl sl_S_api_Term rfl)) ?_ | refine MGo_c0 rfl (by decide) (.run rfl (stp_len_rowd rfl sl_S_api_Term rfl rfl)) ?_ | refine MGo_c0 rfl (by decide) (.run rfl (stp_len_nil rfl sl_S_api_Term rfl)) ?_ | refine MGo_c0 rfl (by decide) (.run rfl (stp_len_vw rfl sl_S_api_Term rfl)) ?_
    refine MGo_c0 rfl (by decide) (.run rfl (stp_binI (r := .bool false) rfl rfl rfl (congrArg (fun b => some (Value.bool b)) l21))) ?_; refine MGo_c0 rfl (by decide) (.run rfl (stp_move (.inl rfl) rfl)) ?_; refine MGo_c0 rfl (by decide) (.want rfl rfl rfl (by decide) (stp_move (.inl rfl) rfl)) ?_; refine MGo_c0 rfl (by decide) (.want rfl rfl rfl (by decide) (stp_move (.inl rfl) rfl)) ?_
    first | refine MGo_c0 rfl (by decide) (.want rfl rfl rfl (by decide) (stp_len_dat rfl sl_S_api_Term rfl)) ?_ | refine MGo_c0 rfl (by decide) (.want rfl rfl rfl (by decide) (stp_len_rowd rfl sl_S_api_Term rfl rfl)) ?_ | refine MGo_c0 rfl (by decide) (.want rfl rfl rfl (by decide) (stp_len_nil rfl sl_S_api_Term rfl)) ?_ | refine MGo_c0 rfl (by decide) (.want rfl rfl rfl (by decide) (stp_len_vw rfl sl_S_api_Term rfl)) ?_
    refine MGo_c0 rfl (by decide) (.want rfl rfl rfl (by decide) (stp_binI (r := .bool false) rfl rfl rfl (congrArg (fun b => some (Value.bool b)) l26))) ?_; refine MGo_c0 rfl (by decide) (.want rfl rfl rfl (by decide) (stp_move (.inl rfl) rfl)) ?_; refine MGo_c0 rfl (by decide) (.skip rfl rfl rfl (by decide) (by decide)) ?_
    refine MGo_c0 rfl (by decide) (.skip rfl rfl rfl (by decide) (by decide)) ?_; refine MGo_c0 rfl (by decide) (.skip rfl rfl rfl (by decide) (by decide)) ?_; refine MGo_c0 rfl (by decide) (.skip rfl rfl rfl (by decide) (by decide)) ?_; refine MGo_c0 rfl (by decide) (.skip rfl rfl rfl (by decide) (by decide)) ?_; refine MGo_c0 rfl (by decide) (.skip rfl rfl rfl (by decide) (by decide)) ?_
    refine MGo_c0 rfl (by decide) (.skip rfl rfl rfl (by decide) (by decide)) ?_; refine MGo_c0 rfl (by decide) (.skip rfl rfl rfl (by decide) (by decide)) ?_; refine MGo_nil ⟨rfl, rfl, ?_⟩; refine awps_gs rfl rfl rfl rfl (by decide) rfl (by decide) ?_; refine awps_gs rfl rfl rfl rfl (by decide) rfl (by decide) ?_; refine awps_g0 rfl rfl rfl (by decide) rfl (by decide) (stp_pick rfl rfl rfl) ?_
    refine awps_stp0 rfl rfl (by decide) (stp_pick rfl rfl rfl) ?_; refine awps_nil ?_; refine thenQ_nil ?_; refine awp_condF rfl ?_; refine awp_seq ?_
    have hst2 : mrg (a.drop e.1.1) (b.drop e.1.2) = v :: mrg (a.drop e.1.1) (b.drop (e.1.2 + 1)) := by first | exact hstep | exact mrg_eB hv (.inr ⟨u, hu, by omega⟩)
    let e2 : (Nat × Nat) × List Tm := ((e.1.1, e.1.2 + 1), e.2 ++ [v])
    have hst : e2.1.1 + e2.1.2 = r + 1 ∧ e2.1.1 ≤ a.length ∧ e2.1.2 ≤ b.length ∧ e2.2.length = r + 1 ∧ e2.2 ++ mrg (a.drop e2.1.1) (b.drop e2.1.2) = mrg a b := ⟨by simp only [e2]; omega, hi, by have := (List.getElem?_eq_some_iff.1 hv).1; simp only [e2]; omega, by simp only [e2, List.length_append, List.length_singleton]; omega, by rw [← hm, hst2]; simp [e2]⟩
    refine awp_region ?_; refine awps_stp0 rfl rfl (by decide) (stp_move (.inl rfl) rfl) ?_; refine awps_stp0 rfl rfl (by decide) (stp_move (.inl rfl) rfl) ?_; refine awps_stp0 rfl rfl (by decide) (stp_move (.inl rfl) rfl) ?_
    first | refine awps_stp0 rfl rfl (by decide) (stp_indexAddr rfl sl_S_api_Term rfl rfl (by omega) (tmDs_get hv)) ?_ | refine awps_stp0 rfl rfl (by decide) (stp_indexAddr_rowd rfl sl_S_api_Term rfl rfl rfl (by omega) (tmDs_get hv)) ?_ | refine awps_stp0 rfl rfl (by decide) (stp_indexAddr_row rfl sl_S_api_Term rfl rfl rfl (by omega) (tmDs_get hv) (by decide)) ?_
    first | refine awps_stp0 rfl rfl (by decide) (stp_load_all rfl tf_api_Term rfl rfl rfl rfl) ?_ | refine awps_stp0 rfl rfl (by decide) (stp_load rfl tf_api_Term rfl rfl rfl rfl rfl) ?_ | refine awps_stp0 rfl rfl (by decide) (stp_load_elpa rfl tf_api_Term rfl rfl) ?_ | refine awps_stp0 rfl rfl (by decide) (stp_load_elpn rfl tf_api_Term rfl rfl rfl) ?_
    refine awps_stp1 rfl rfl (by decide) (stp_buildSlice 54 rfl sl_S_api_Term zv_api_Term rfl rfl (by decide) (by decide) (by decide) rfl rfl rfl) rfl ?_
    first | refine awps_u rfl rfl (by decide) (stpU_append1 55 ta_S_api_Term rfl rfl rfl rfl rfl rfl rfl rfl (noL hL _) (by omega) rfl) rfl ?_ | refine awps_u rfl rfl (by decide) (stpU_appendd 55 ta_S_api_Term rfl rfl rfl rfl rfl (noL hL _) (by simp) (by omega) rfl) rfl ?_ | refine awps_u rfl rfl (by decide) (stpU_appendi 55 ta_S_api_Term rfl rfl rfl rfl (rfl) rfl (noL hL _) (by simp) (by omega) rfl) rfl ?_
    refine awps_stp0 rfl rfl (by decide) (stp_move (.inr rfl) rfl) ?_; refine awps_nil ?_; refine thenQ_nil ?_; refine awp_sub (sub_rename 55 5 (noL hL _) (noL hL _)) ?_; refine awp_region ?_; refine awps_stp0 rfl rfl (by decide) (stp_move (.inl rfl) rfl) ?_; refine awps_stp0 rfl rfl (by decide) (stp_add rfl rfl rfl (by omega)) ?_
    refine awps_stp0 rfl rfl (by decide) (stp_move (.inr rfl) rfl) ?_; refine awps_nil ?_; refine inQ_nil ?_; refine thenQ_nil ?_; refine ⟨?_, e2, ?_, ?_⟩
    · skip
      omega
    · skip
      exact hst
    exact sub_re (SubT.cons (lk_eq rfl (by first | rfl | simp)) (SubT.cons (lk_eq rfl (by first | rfl | simp)) (SubT.cons (lk_eq rfl (by first | rfl | simp)) (SubT.cons (lk_eq rfl (by first | rfl | simp)) (SubT.cons (lk_eq rfl (by first | rfl | simp)) (SubT.nil)))))) (SubO.cons (ok_eq rfl (by rw [tmDs_snoc]; rfl)) (SubO.nil)) rfl rfl (noL' (noL hL) _)
  try simp only [↓cqA, cqB] at c0
  have hfin : e.2 = mrg a b := by
    rw [List.drop_eq_nil_of_le (by omega), List.drop_eq_nil_of_le (by omega), mrg_nil, List.append_nil] at hm
    exact hm
  rw [hfin]
  refine awp_exit ?_; refine thenQ_exit (thenQ_exit (inQ_hit ?_)); refine thenQ_nil ?_; refine awp_seq ?_; refine awp_sub (sub_freeze (l := 5) rfl (by decide) (noL hL _) rfl rfl) ?_; refine awp_region ?_; refine awps_stp0 rfl rfl (by decide) (stp_move (.inl rfl) rfl) ?_; refine awps_stp0 rfl rfl (by decide) (stp_move (.inr rfl) rfl) ?_; refine awps_nil ?_; refine thenQ_nil ?_; refine awp_ret ?_
  -- leaf g12F0F
  refine ret0 (noL hL) (.inl rfl) (resAs_tmp rfl (resAs_nil)) ?_ ?_
  · rfl
  exact ⟨rfl, rfl⟩
end Go.Proofs.YtdecgkhdbfgldaaGreat

set_option linter.unusedVariables false
set_option linter.unusedSimpArgs false
set_option maxRecDepth 8000
namespace Go.Proofs.YtdecgkhdbfgldaaGreat
open Go Go.Maps
theorem knownStep_ok (cs : List Cl) (hcl : cs.length ≤ 1000000) (hw : ∀ q ∈ cs, q.wf) (hg : cs.all okC = true) (k : List Tm) (hk : Kn k) (hB : (derL cs k).length ≤ 10000000) (h60 : k.length + (nextL cs k).length ≤ 60) :
    PF 73 [.dat false 6 (clDs cs), .dat false 4 (tmDs k)] (.tup [.dat false 4 (tmDs (nextL cs k)), iv 0]) := by
  have hlk := tmDs_length k
  have hln := tmDs_length (nextL cs k)
  have hc := okC_all hg
  have k1 := knownAtoms_ok k (by have := hk.len; simp only [lenOk]; omega) (wfs_of fun t ht => (hk.atk t ht).wf)
  rw [hk.atoms] at k1
  have k2 := step_ok cs (by omega) hw hc k hk.atk (by have := hk.len; omega) hB
  refine AC_intro Tryz.func73 rfl Tryz.ntmps73 (Nat.le_of_ble_eq_true rfl) fun c hL hQ hDD => ?_; refine awp_seq ?_; refine awp_region ?_; refine awps_stp0 rfl rfl (by decide) (stp_move (.inr rfl) rfl) ?_; refine awps_stp0 rfl rfl (by decide) (stp_move (.inr rfl) rfl) ?_; refine awps_nil ?_; refine thenQ_nil ?_; refine awp_seq ?_; refine awp_seq ?_; refine awp_region ?_
  refine awps_stp0 rfl rfl (by decide) (stp_move (.inl rfl) rfl) ?_
  refine awps_callP (avs := [_, _]) false rfl rfl rfl (by decide) en_slices_ContainsFunc_api_Clause_api_Clause rfl rfl (ContainsFunc_cl_ok false cs _ rfl (by omega) _ [] en_known_bad (fun _ => []) (fun k => match cs[k]? with | some t => !(okC t) | none => false) ⟨fun k l => rfl, fun k => passO .nil, fun k => rfl, fun k => rfl, fun k => rfl, fun k => rfl, fun h => by cases h⟩ (fun k g hg _ => by rw [hg]; exact badC_ok g (hw g (List.mem_of_getElem? hg)))) (rfl) (passO .nil) (by rintro r O' ⟨m, n, b, _, _, _, _, rfl⟩; exact frB rfl) (by rintro h; cases h) ?_
  rintro r O' ⟨m, n, b, hm1, hf1, hc1, rfl, rfl⟩
  have hb1 := cont_all (l := cs) (p := okC) (fun j x hx => by simp only [hx]) hf1 hc1
  rw [hg] at hb1
  obtain rfl : b = false := by simpa using hb1
  refine awps_stp0 rfl rfl (by decide) (stp_move (.inl rfl) rfl) ?_; refine awps_split 9 rfl (fun g9 => ?_) (fun g9 => ?_)
  · try simp only [↓cqA, cqB] at g9
    refine awps_gs rfl rfl rfl rfl (by decide) rfl (by decide) ?_; refine awps_gs rfl rfl rfl rfl (by decide) rfl (by decide) ?_; refine awps_gs rfl rfl rfl rfl (by decide) rfl (by decide) ?_; refine awps_stp0 rfl rfl (by decide) (stp_pick rfl rfl rfl) ?_; refine awps_nil ?_; refine thenQ_nil ?_; refine awp_condT rfl ?_; refine awp_seq ?_; refine awp_region ?_
    refine awps_stp0 rfl rfl (by decide) (stp_move (.inr rfl) rfl) ?_; refine awps_stp0 rfl rfl (by decide) (stp_move (.inr rfl) rfl) ?_; refine awps_nil ?_; refine thenQ_nil ?_; refine awp_ret ?_; refine thenQ_ret (?_)
    -- leaf g9T
    refine ret0 (noL hL) (.inl rfl) (resAs_tmp rfl (resAs_tmp rfl (resAs_nil))) ?_ ?_
    · rfl
    first
    | exact ⟨rfl, rfl⟩
    | exact absurd rfl (by assumption)
    | exact absurd trivial (by assumption)
    | exact absurd (show true = false by assumption) (by decide)
    | exact absurd (show false = true by assumption) (by decide)
    | (exfalso; omega)
    | trace_state
  try simp only [↓cqA, cqB] at g9
  refine awps_g0 rfl rfl rfl (by decide) rfl (by decide) (stp_move (.inl rfl) rfl) ?_; refine awps_g0 rfl rfl rfl (by decide) rfl (by decide) (stp_call (avs := [_]) true rfl en_known_Atoms rfl rfl (k1) (fun _ => rfl) rfl) ?_; refine awps_g0 rfl rfl rfl (by decide) rfl (by decide) (stp_not rfl rfl) ?_; refine awps_stp0 rfl rfl (by decide) (stp_pick rfl rfl rfl) ?_; refine awps_nil ?_
  refine thenQ_nil ?_; refine awp_cond rfl (fun c0 => ?_) (fun c0 => ?_)
  · try simp only [↓cqA, cqB] at c0
    refine awp_seq ?_; refine awp_region ?_; refine awps_stp0 rfl rfl (by decide) (stp_move (.inr rfl) rfl) ?_; refine awps_stp0 rfl rfl (by decide) (stp_move (.inr rfl) rfl) ?_; refine awps_nil ?_; refine thenQ_nil ?_; refine awp_ret ?_; refine thenQ_ret (?_)
    -- leaf g9F0T
    refine ret0 (noL hL) (.inl rfl) (resAs_tmp rfl (resAs_tmp rfl (resAs_nil))) ?_ ?_
    · rfl
    first
    | exact ⟨rfl, rfl⟩
    | exact absurd rfl (by assumption)
    | exact absurd trivial (by assumption)
    | exact absurd (show true = false by assumption) (by decide)
    | exact absurd (show false = true by assumption) (by decide)
    | (exfalso; omega)
    | trace_state
  try simp only [↓cqA, cqB] at c0
  refine awp_skip ?_; refine thenQ_nil ?_; refine awp_seq ?_; refine awp_region ?_; refine awps_stp0 rfl rfl (by decide) (stp_move (.inl rfl) rfl) ?_; refine awps_stp0 rfl rfl (by decide) (stp_move (.inl rfl) rfl) ?_; refine awps_call (avs := [_, _]) false rfl rfl rfl (by decide) en_known_step rfl rfl (k2) rfl rfl ?_; refine awps_stp0 rfl rfl (by decide) (stp_move (.inr rfl) rfl) ?_
  refine awps_nil ?_; refine thenQ_nil ?_; refine awp_seq ?_; refine awp_seq ?_; refine awp_region ?_; refine awps_stp0 rfl rfl (by decide) (stp_move (.inl rfl) rfl) ?_
  first | refine awps_stp0 rfl rfl (by decide) (stp_len_dat rfl sl_S_api_Term rfl) ?_ | refine awps_stp0 rfl rfl (by decide) (stp_len_rowd rfl sl_S_api_Term rfl rfl) ?_ | refine awps_stp0 rfl rfl (by decide) (stp_len_nil rfl sl_S_api_Term rfl) ?_ | refine awps_stp0 rfl rfl (by decide) (stp_len_vw rfl sl_S_api_Term rfl) ?_
  refine awps_stp0 rfl rfl (by decide) (stp_move (.inl rfl) rfl) ?_
  first | refine awps_stp0 rfl rfl (by decide) (stp_len_dat rfl sl_S_api_Term rfl) ?_ | refine awps_stp0 rfl rfl (by decide) (stp_len_rowd rfl sl_S_api_Term rfl rfl) ?_ | refine awps_stp0 rfl rfl (by decide) (stp_len_nil rfl sl_S_api_Term rfl) ?_ | refine awps_stp0 rfl rfl (by decide) (stp_len_vw rfl sl_S_api_Term rfl) ?_
  refine awps_stp0 rfl rfl (by decide) (stp_add rfl rfl rfl (by omega)) ?_; refine awps_stp0 rfl rfl (by decide) (stp_binI rfl rfl rfl rfl) ?_; refine awps_nil ?_; refine thenQ_nil ?_; refine awp_cond rfl (fun c1 => ?_) (fun c1 => ?_)
  · try simp only [↓cqA, cqB] at c1
    refine awp_seq ?_; refine awp_region ?_; refine awps_stp0 rfl rfl (by decide) (stp_move (.inr rfl) rfl) ?_; refine awps_stp0 rfl rfl (by decide) (stp_move (.inr rfl) rfl) ?_; refine awps_nil ?_; refine thenQ_nil ?_; refine awp_ret ?_; refine thenQ_ret (?_)
    -- leaf g9F0F1T
    refine ret0 (noL hL) (.inl rfl) (resAs_tmp rfl (resAs_tmp rfl (resAs_nil))) ?_ ?_
    · rfl
    first
    | exact ⟨rfl, rfl⟩
    | exact absurd rfl (by assumption)
    | exact absurd trivial (by assumption)
    | exact absurd (show true = false by assumption) (by decide)
    | exact absurd (show false = true by assumption) (by decide)
    | (exfalso; omega)
    | trace_state
  try simp only [↓cqA, cqB] at c1
  refine awp_skip ?_; refine thenQ_nil ?_; refine awp_seq ?_; refine awp_region ?_; refine awps_stp0 rfl rfl (by decide) (stp_move (.inl rfl) rfl) ?_; refine awps_stp0 rfl rfl (by decide) (stp_move (.inr rfl) rfl) ?_; refine awps_stp0 rfl rfl (by decide) (stp_move (.inr rfl) rfl) ?_; refine awps_nil ?_; refine thenQ_nil ?_; refine awp_ret ?_
  -- leaf g9F0F1F
  refine ret0 (noL hL) (.inl rfl) (resAs_tmp rfl (resAs_tmp rfl (resAs_nil))) ?_ ?_
  · rfl
  first
  | exact ⟨rfl, rfl⟩
  | exact absurd rfl (by assumption)
  | exact absurd trivial (by assumption)
  | exact absurd (show true = false by assumption) (by decide)
  | exact absurd (show false = true by assumption) (by decide)
  | (exfalso; omega)
  | trace_state
def thrB (y : Tm) (l : List Tm) : Bool := l.any fun u => eqT 5 y u
theorem thrB_take {y u : Tm} {l : List Tm} {j : Nat} (h : l[j]? = some u) : thrB y (l.take (j + 1)) = (thrB y (l.take j) || eqT 5 y u) := by
  rw [take_snoc h, thrB, thrB, List.any_append]; simp
theorem clDs_take (l : List Cl) (i : Nat) : (clDs l).take i = clDs (l.take i) := by simp [clDs, List.map_take]
theorem KnownLeast_ok (p : Ask11) (hpw : p.wf) : PF 14 [.agg (lift false (a11D p))] (bv true) := by
  obtain ⟨⟨hlC, hwC⟩, ⟨hlK, hwK⟩, hlT, hwT⟩ := id hpw
  have hdc := clDs_length p.C
  have hlenC : heavy11 p = false → p.C.length ≤ 600 := fun h => by
    have h1 := wgtL_ge' wC (p.C.length : Int) p.C (fun u hu => (wC_range u (hwC u hu)).1)
    simp only [heavy11, Bool.or_eq_false_iff, decide_eq_false_iff_not] at h
    have h2 := h.1.1
    simp only [wCs] at h2
    omega
  have hK0 := allC_kn hwC
  have hk60 := hK0.len
  have hdk := tmDs_length (allC p.C).1
  have hnil : (tmDs ([] : List Tm)).length = 0 := rfl
  have hzero : (tmDs (nextL p.C (allC p.C).1)).length = (nextL p.C (allC p.C).1).length := tmDs_length _
  refine AC_intro Tryz.func14 rfl Tryz.ntmps14 (Nat.le_of_ble_eq_true rfl) fun c hL hQ hDD => ?_; refine awp_seq ?_; refine awp_region ?_; refine awps_stp1 rfl rfl (by decide) (stp_box 1 rfl rfl rfl) rfl ?_; refine awps_stp0 rfl rfl (by decide) (stp_move (.inr rfl) rfl) ?_; refine awps_nil ?_; refine thenQ_nil ?_; refine awp_seq ?_; refine awp_seq ?_; refine awp_region ?_
  first | refine awps_stp0 rfl rfl (by decide) (stp_load_all rfl tf_almagestlaw11_Ask rfl rfl rfl rfl) ?_ | refine awps_stp0 rfl rfl (by decide) (stp_load rfl tf_almagestlaw11_Ask rfl rfl rfl rfl rfl) ?_ | refine awps_stp0 rfl rfl (by decide) (stp_load_elpa rfl tf_almagestlaw11_Ask rfl rfl) ?_ | refine awps_stp0 rfl rfl (by decide) (stp_load_elpn rfl tf_almagestlaw11_Ask rfl rfl rfl) ?_
  refine awps_call (avs := [_]) true rfl rfl rfl (by decide) en_almagestlaw11_Heavy rfl rfl (Heavy11_ok p hpw) rfl rfl ?_; refine awps_stp0 rfl rfl (by decide) (stp_move (.inl rfl) rfl) ?_; refine awps_split 19 rfl (fun g19 => ?_) (fun g19 => ?_)
  · try simp only [↓cqA, cqB] at g19
    refine awps_gs rfl rfl rfl rfl (by decide) rfl (by decide) ?_; refine awps_gs rfl rfl rfl rfl (by decide) rfl (by decide) ?_; refine awps_gs rfl rfl rfl rfl (by decide) rfl (by decide) ?_; refine awps_gs rfl rfl rfl rfl (by decide) rfl (by decide) ?_; refine awps_stp0 rfl rfl (by decide) (stp_pick rfl rfl rfl) ?_; refine awps_nil ?_; refine thenQ_nil ?_; refine awp_condT rfl ?_
    refine awp_seq ?_; refine awp_region ?_; refine awps_stp0 rfl rfl (by decide) (stp_move (.inr rfl) rfl) ?_; refine awps_nil ?_; refine thenQ_nil ?_; refine awp_ret ?_; refine thenQ_ret (?_)
    -- leaf g19T
    refine ret0 (noL hL) (.inl rfl) (resAs_tmp rfl (resAs_nil)) ?_ ?_
    · rfl
    first
    | exact ⟨rfl, rfl⟩
    | exact absurd rfl (by assumption)
    | exact absurd trivial (by assumption)
    | exact absurd (show true = false by assumption) (by decide)
    | exact absurd (show false = true by assumption) (by decide)
    | (exfalso; omega)
    | trace_state
  try simp only [↓cqA, cqB] at g19
  have hheavy : heavy11 p = false := by first | assumption | simpa using g19
  have hn600 := hlenC hheavy
  first | refine awps_g0 rfl rfl rfl (by decide) rfl (by decide) (stp_fieldAddr rfl fo_almagestlaw11_Ask_0 rfl) ?_ | refine awps_g0 rfl rfl rfl (by decide) rfl (by decide) (stp_fieldAddr_elp rfl fo_almagestlaw11_Ask_0 rfl) ?_
  first | refine awps_g0 rfl rfl rfl (by decide) rfl (by decide) (stp_load rfl tf_S_api_Clause rfl rfl rfl rfl rfl) ?_ | refine awps_g0 rfl rfl rfl (by decide) rfl (by decide) (stp_load_elp1 rfl tf_S_api_Clause rfl) ?_ | refine awps_g0 rfl rfl rfl (by decide) rfl (by decide) (stp_load_elpn rfl tf_S_api_Clause rfl rfl rfl) ?_
  refine awps_g0 rfl rfl rfl (by decide) rfl (by decide) (stp_call (avs := [_, _]) true rfl en_almagestlaw11_light rfl rfl (light_ok p.C hn600 hwC) (fun _ => rfl) rfl) ?_; refine awps_g0 rfl rfl rfl (by decide) rfl (by decide) (stp_not rfl rfl) ?_; refine awps_stp0 rfl rfl (by decide) (stp_pick rfl rfl rfl) ?_; refine awps_nil ?_; refine thenQ_nil ?_
  refine awp_cond rfl (fun c0 => ?_) (fun c0 => ?_)
  · try simp only [↓cqA, cqB] at c0
    refine awp_seq ?_; refine awp_region ?_; refine awps_stp0 rfl rfl (by decide) (stp_move (.inr rfl) rfl) ?_; refine awps_nil ?_; refine thenQ_nil ?_; refine awp_ret ?_; refine thenQ_ret (?_)
    -- leaf g19F0T
    refine ret0 (noL hL) (.inl rfl) (resAs_tmp rfl (resAs_nil)) ?_ ?_
    · rfl
    first
    | exact ⟨rfl, rfl⟩
    | exact absurd rfl (by assumption)
    | exact absurd trivial (by assumption)
    | exact absurd (show true = false by assumption) (by decide)
    | exact absurd (show false = true by assumption) (by decide)
    | (exfalso; omega)
    | trace_state
  try simp only [↓cqA, cqB] at c0
  have hlight : pws p.C < 300000 := by first | assumption | simpa using c0
  have hBd : p.C.all okC = true → ∀ k, Kn k → (derL p.C k).length ≤ 10000000 := fun h k hk => derL_light (fun q hq => okC_body (okC_all h q hq)) hlight hk
  refine awp_skip ?_; refine thenQ_nil ?_; refine awp_seq ?_; refine awp_region ?_
  first | refine awps_stp0 rfl rfl (by decide) (stp_fieldAddr rfl fo_almagestlaw11_Ask_0 rfl) ?_ | refine awps_stp0 rfl rfl (by decide) (stp_fieldAddr_elp rfl fo_almagestlaw11_Ask_0 rfl) ?_
  first | refine awps_stp0 rfl rfl (by decide) (stp_load rfl tf_S_api_Clause rfl rfl rfl rfl rfl) ?_ | refine awps_stp0 rfl rfl (by decide) (stp_load_elp1 rfl tf_S_api_Clause rfl) ?_ | refine awps_stp0 rfl rfl (by decide) (stp_load_elpn rfl tf_S_api_Clause rfl rfl rfl) ?_
  refine awps_call (avs := [_]) false rfl rfl rfl (by decide) en_known_All rfl rfl (All2_ok p.C (by omega) hwC hBd) rfl rfl ?_; refine awps_stp0 rfl rfl (by decide) (stp_move (.inl rfl) rfl) ?_; refine awps_stp0 rfl rfl (by decide) (stp_extract rfl rfl rfl) ?_; refine awps_stp0 rfl rfl (by decide) (stp_extract rfl rfl rfl) ?_; refine awps_stp0 rfl rfl (by decide) (stp_move (.inr rfl) rfl) ?_
  refine awps_stp0 rfl rfl (by decide) (stp_move (.inr rfl) rfl) ?_; refine awps_nil ?_; refine thenQ_nil ?_; refine awp_seq ?_; refine awp_seq ?_; refine awp_region ?_; refine awps_stp0 rfl rfl (by decide) (stp_move (.inl rfl) rfl) ?_; refine awps_call (avs := [_]) true rfl rfl rfl (by decide) en_almagestlaw11_num rfl rfl (num11_ok _) rfl rfl ?_
  refine awps_stp0 rfl rfl (by decide) (stp_binI rfl rfl rfl rfl) ?_; refine awps_stp0 rfl rfl (by decide) (stp_move (.inl rfl) rfl) ?_; refine awps_split 34 rfl (fun g34 => ?_) (fun g34 => ?_)
  · try simp only [↓cqA, cqB] at g34
    refine awps_gs rfl rfl rfl rfl (by decide) rfl (by decide) ?_; refine awps_gs rfl rfl rfl rfl (by decide) rfl (by decide) ?_; refine awps_gs rfl rfl rfl rfl (by decide) rfl (by decide) ?_; refine awps_stp0 rfl rfl (by decide) (stp_pick rfl rfl rfl) ?_; refine awps_nil ?_; refine thenQ_nil ?_; refine awp_condT rfl ?_; refine awp_seq ?_; refine awp_region ?_
    refine awps_stp0 rfl rfl (by decide) (stp_move (.inr rfl) rfl) ?_; refine awps_nil ?_; refine thenQ_nil ?_; refine awp_ret ?_; refine thenQ_ret (?_)
    -- leaf g19F0Fg34T
    refine ret0 (noL hL) (.inl rfl) (resAs_tmp rfl (resAs_nil)) ?_ ?_
    · rfl
    first
    | exact ⟨rfl, rfl⟩
    | exact absurd rfl (by assumption)
    | exact absurd trivial (by assumption)
    | exact absurd (show true = false by assumption) (by decide)
    | exact absurd (show false = true by assumption) (by decide)
    | (exfalso; omega)
    | trace_state
  try simp only [↓cqA, cqB] at g34
  refine awps_g0 rfl rfl rfl (by decide) rfl (by decide) (stp_move (.inl rfl) rfl) ?_
  first | refine awps_g0 rfl rfl rfl (by decide) rfl (by decide) (stp_len_dat rfl sl_S_api_Term rfl) ?_ | refine awps_g0 rfl rfl rfl (by decide) rfl (by decide) (stp_len_rowd rfl sl_S_api_Term rfl rfl) ?_ | refine awps_g0 rfl rfl rfl (by decide) rfl (by decide) (stp_len_nil rfl sl_S_api_Term rfl) ?_ | refine awps_g0 rfl rfl rfl (by decide) rfl (by decide) (stp_len_vw rfl sl_S_api_Term rfl) ?_
  refine awps_g0 rfl rfl rfl (by decide) rfl (by decide) (stp_binI rfl rfl rfl rfl) ?_; refine awps_stp0 rfl rfl (by decide) (stp_pick rfl rfl rfl) ?_; refine awps_nil ?_; refine thenQ_nil ?_; refine awp_cond rfl (fun c1 => ?_) (fun c1 => ?_)
  · try simp only [↓cqA, cqB] at c1
    refine awp_seq ?_; refine awp_region ?_; refine awps_stp0 rfl rfl (by decide) (stp_move (.inr rfl) rfl) ?_; refine awps_nil ?_; refine thenQ_nil ?_; refine awp_ret ?_; refine thenQ_ret (?_)
    -- leaf g19F0Fg34F1T
    refine ret0 (noL hL) (.inl rfl) (resAs_tmp rfl (resAs_nil)) ?_ ?_
    · rfl
    first
    | exact ⟨rfl, rfl⟩
    | exact absurd rfl (by assumption)
    | exact absurd trivial (by assumption)
    | exact absurd (show true = false by assumption) (by decide)
    | exact absurd (show false = true by assumption) (by decide)
    | (exfalso; omega)
    | trace_state
  try simp only [↓cqA, cqB] at c1
  have hE0 : (allC p.C).2 = 0 := by first | assumption | omega
  have hL30 : (allC p.C).1.length ≤ 30 := by omega
  have hgood : p.C.all okC = true := by
    cases h : p.C.all okC with
    | true => rfl
    | false => rw [allC, h] at hE0; cases hE0
  have hc := okC_all hgood
  have hall : allR p.C 61 [] = ((allC p.C).1, 0) := by
    have : allC p.C = allR p.C 61 [] := by rw [allC, if_pos hgood]
    rw [← this, ← hE0]
  have hend := (allR_end hwC hc 61 [] _ Kn.nil hall).1
  have hkey := knownStep_ok p.C (by omega) hwC hgood _ hK0 (hBd hgood _ hK0) (by rw [hend]; simpa using hk60)
  rw [hend] at hkey
  refine awp_skip ?_; refine thenQ_nil ?_; refine awp_seq ?_; refine awp_region ?_
  first | refine awps_stp0 rfl rfl (by decide) (stp_fieldAddr rfl fo_almagestlaw11_Ask_0 rfl) ?_ | refine awps_stp0 rfl rfl (by decide) (stp_fieldAddr_elp rfl fo_almagestlaw11_Ask_0 rfl) ?_
  first | refine awps_stp0 rfl rfl (by decide) (stp_load rfl tf_S_api_Clause rfl rfl rfl rfl rfl) ?_ | refine awps_stp0 rfl rfl (by decide) (stp_load_elp1 rfl tf_S_api_Clause rfl) ?_ | refine awps_stp0 rfl rfl (by decide) (stp_load_elpn rfl tf_S_api_Clause rfl rfl rfl) ?_
  refine awps_stp0 rfl rfl (by decide) (stp_move (.inl rfl) rfl) ?_; refine awps_call (avs := [_, _]) false rfl rfl rfl (by decide) en_known_Step rfl rfl (hkey) rfl rfl ?_; refine awps_stp0 rfl rfl (by decide) (stp_move (.inl rfl) rfl) ?_; refine awps_stp0 rfl rfl (by decide) (stp_extract rfl rfl rfl) ?_; refine awps_stp0 rfl rfl (by decide) (stp_extract rfl rfl rfl) ?_
  refine awps_stp0 rfl rfl (by decide) (stp_move (.inr rfl) rfl) ?_; refine awps_stp0 rfl rfl (by decide) (stp_move (.inr rfl) rfl) ?_; refine awps_nil ?_; refine thenQ_nil ?_; refine awp_seq ?_; refine awp_seq ?_; refine awp_region ?_; refine awps_stp0 rfl rfl (by decide) (stp_move (.inl rfl) rfl) ?_
  refine awps_call (avs := [_]) true rfl rfl rfl (by decide) en_almagestlaw11_num rfl rfl (num11_ok _) rfl rfl ?_; refine awps_stp0 rfl rfl (by decide) (stp_binI rfl rfl rfl rfl) ?_; refine awps_stp0 rfl rfl (by decide) (stp_move (.inl rfl) rfl) ?_; refine awps_split 49 rfl (fun g49 => ?_) (fun g49 => ?_)
  · try simp only [↓cqA, cqB] at g49
    refine awps_gs rfl rfl rfl rfl (by decide) rfl (by decide) ?_; refine awps_gs rfl rfl rfl rfl (by decide) rfl (by decide) ?_; refine awps_gs rfl rfl rfl rfl (by decide) rfl (by decide) ?_; refine awps_stp0 rfl rfl (by decide) (stp_pick rfl rfl rfl) ?_; refine awps_nil ?_; refine thenQ_nil ?_; refine awp_condT rfl ?_; refine awp_seq ?_; refine awp_region ?_
    refine awps_stp0 rfl rfl (by decide) (stp_move (.inr rfl) rfl) ?_; refine awps_nil ?_; refine thenQ_nil ?_; refine awp_ret ?_; refine thenQ_ret (?_)
    -- leaf g19F0Fg34F1Fg49T
    refine ret0 (noL hL) (.inl rfl) (resAs_tmp rfl (resAs_nil)) ?_ ?_
    · rfl
    first
    | exact ⟨rfl, rfl⟩
    | exact absurd rfl (by assumption)
    | exact absurd trivial (by assumption)
    | exact absurd (show true = false by assumption) (by decide)
    | exact absurd (show false = true by assumption) (by decide)
    | (exfalso; omega)
    | trace_state
  try simp only [↓cqA, cqB] at g49
  refine awps_g0 rfl rfl rfl (by decide) rfl (by decide) (stp_move (.inl rfl) rfl) ?_
  first | refine awps_g0 rfl rfl rfl (by decide) rfl (by decide) (stp_len_dat rfl sl_S_api_Term rfl) ?_ | refine awps_g0 rfl rfl rfl (by decide) rfl (by decide) (stp_len_rowd rfl sl_S_api_Term rfl rfl) ?_ | refine awps_g0 rfl rfl rfl (by decide) rfl (by decide) (stp_len_nil rfl sl_S_api_Term rfl) ?_ | refine awps_g0 rfl rfl rfl (by decide) rfl (by decide) (stp_len_vw rfl sl_S_api_Term rfl) ?_
  refine awps_g0 rfl rfl rfl (by decide) rfl (by decide) (stp_binI rfl rfl rfl rfl) ?_; refine awps_stp0 rfl rfl (by decide) (stp_pick rfl rfl rfl) ?_; refine awps_nil ?_; refine thenQ_nil ?_; refine awp_cond rfl (fun c2 => ?_) (fun c2 => ?_)
  · try simp only [↓cqA, cqB] at c2
    refine awp_seq ?_; refine awp_region ?_; refine awps_stp0 rfl rfl (by decide) (stp_move (.inr rfl) rfl) ?_; refine awps_nil ?_; refine thenQ_nil ?_; refine awp_ret ?_; refine thenQ_ret (?_)
    -- leaf g19F0Fg34F1Fg49F2T
    refine ret0 (noL hL) (.inl rfl) (resAs_tmp rfl (resAs_nil)) ?_ ?_
    · rfl
    first
    | exact ⟨rfl, rfl⟩
    | exact absurd rfl (by assumption)
    | exact absurd trivial (by assumption)
    | exact absurd (show true = false by assumption) (by decide)
    | exact absurd (show false = true by assumption) (by decide)
    | (exfalso; omega)
    | trace_state
  try simp only [↓cqA, cqB] at c2
  refine awp_skip ?_; refine thenQ_nil ?_; refine awp_seq ?_; refine awp_seq ?_; refine awp_region ?_; refine awps_stp0 rfl rfl (by decide) (stp_move (.inr rfl) rfl) ?_; refine awps_nil ?_; refine thenQ_nil ?_; refine awp_block ?_
  refine awp_while (p.C.length) (fun n => n ≤ p.C.length) (fun n => ⟨[(1, .ptr 1 0), (3, .dat false 4 (tmDs (allC p.C).1)), (7, iv (n : Int))], [(1, .box (lift false (a11D p)))]⟩) (by omega) ?_ (fun n hn hpn => ?_)
  · exact sub_re (SubT.cons (lk_eq rfl (by first | rfl | simp)) (SubT.cons (lk_eq rfl (by first | rfl | simp)) (SubT.cons (lk_eq rfl (by first | rfl | simp)) (SubT.nil)))) (SubO.cons (ok_eq rfl (by rfl)) (SubO.nil)) rfl rfl (noL' (noL hL) _)
  refine awp_seq ?_; refine awp_seq ?_; refine awp_region ?_; refine awps_stp0 rfl rfl (by decide) (stp_move (.inl rfl) rfl) ?_
  first | refine awps_stp0 rfl rfl (by decide) (stp_fieldAddr rfl fo_almagestlaw11_Ask_0 rfl) ?_ | refine awps_stp0 rfl rfl (by decide) (stp_fieldAddr_elp rfl fo_almagestlaw11_Ask_0 rfl) ?_
  first | refine awps_stp0 rfl rfl (by decide) (stp_load rfl tf_S_api_Clause rfl rfl rfl rfl rfl) ?_ | refine awps_stp0 rfl rfl (by decide) (stp_load_elp1 rfl tf_S_api_Clause rfl) ?_ | refine awps_stp0 rfl rfl (by decide) (stp_load_elpn rfl tf_S_api_Clause rfl rfl rfl) ?_
  first | refine awps_stp0 rfl rfl (by decide) (stp_len_dat rfl sl_S_api_Clause rfl) ?_ | refine awps_stp0 rfl rfl (by decide) (stp_len_rowd rfl sl_S_api_Clause rfl rfl) ?_ | refine awps_stp0 rfl rfl (by decide) (stp_len_nil rfl sl_S_api_Clause rfl) ?_ | refine awps_stp0 rfl rfl (by decide) (stp_len_vw rfl sl_S_api_Clause rfl) ?_
  refine awps_stp0 rfl rfl (by decide) (stp_binI rfl rfl rfl rfl) ?_; refine awps_nil ?_; refine thenQ_nil ?_; refine awp_cond rfl (fun c3 => ?_) (fun c3 => ?_)
  · try simp only [↓cqA, cqB] at c3
    have hsub : ∀ q ∈ p.C.take n, q ∈ p.C := fun q hq => List.mem_of_mem_take hq
    have hwN : ∀ q ∈ p.C.take n, q.wf := fun q hq => hwC q (hsub q hq)
    obtain ⟨y, hy, hyk⟩ := allR_in hwC hc hK0 hend hsub 61 [] Kn.nil (fun t ht => by cases ht) (by simp; omega)
    have hgN : (p.C.take n).all okC = true := List.all_eq_true.2 fun q hq => List.all_eq_true.1 hgood q (hsub q hq)
    have hyA : allC (p.C.take n) = (y, 0) := by rw [allC, if_pos hgN, hy]
    have hyl := tmDs_length y
    have hyn := allC_kn hwN
    rw [hyA] at hyn
    have hy60 : y.length ≤ 60 := hyn.len
    have hBn : ∀ k, Kn k → (derL (p.C.take n) k).length ≤ 10000000 := fun k hk => derL_light (fun q hq => okC_body (okC_all hgN q hq)) (by
      have h1 : pws (p.C.take n ++ p.C.drop n) = pws (p.C.take n) + pws (p.C.drop n) := by simp only [pws, List.map_append, List.sum_append]
      rw [List.take_append_drop] at h1
      have h2 := pws_range (p.C.drop n)
      omega) hk
    have hkeyN := All2_ok (p.C.take n) (by rw [List.length_take]; omega) hwN (fun _ => hBn)
    rw [hyA] at hkeyN
    refine awp_skip ?_; refine thenQ_nil ?_; refine awp_seq ?_; refine awp_block ?_; refine awp_seq ?_; refine awp_region ?_
    first | refine awps_stp0 rfl rfl (by decide) (stp_fieldAddr rfl fo_almagestlaw11_Ask_0 rfl) ?_ | refine awps_stp0 rfl rfl (by decide) (stp_fieldAddr_elp rfl fo_almagestlaw11_Ask_0 rfl) ?_
    first | refine awps_stp0 rfl rfl (by decide) (stp_load rfl tf_S_api_Clause rfl rfl rfl rfl rfl) ?_ | refine awps_stp0 rfl rfl (by decide) (stp_load_elp1 rfl tf_S_api_Clause rfl) ?_ | refine awps_stp0 rfl rfl (by decide) (stp_load_elpn rfl tf_S_api_Clause rfl rfl rfl) ?_
    refine awps_stp0 rfl rfl (by decide) (stp_move (.inl rfl) rfl) ?_
    first | refine awps_stp0 rfl rfl (by decide) (stp_sldH rfl sl_S_api_Clause rfl rfl (by omega) (by omega)) ?_ | refine awps_stp0 rfl rfl (by decide) (stp_slvH rfl sl_S_api_Clause rfl rfl (by omega) (by omega) (by omega)) ?_ | refine awps_stp0 rfl rfl (by decide) (stp_slnH rfl sl_S_api_Clause rfl rfl (by omega)) ?_
    rw [show (n : Int).toNat = n from rfl, clDs_take]
    refine awps_call (avs := [_]) false rfl rfl rfl (by decide) en_known_All rfl rfl (hkeyN) rfl rfl ?_; refine awps_stp0 rfl rfl (by decide) (stp_move (.inl rfl) rfl) ?_; refine awps_stp0 rfl rfl (by decide) (stp_extract rfl rfl rfl) ?_; refine awps_stp0 rfl rfl (by decide) (stp_extract rfl rfl rfl) ?_; refine awps_stp0 rfl rfl (by decide) (stp_move (.inr rfl) rfl) ?_
    refine awps_stp0 rfl rfl (by decide) (stp_move (.inr rfl) rfl) ?_; refine awps_nil ?_; refine thenQ_nil ?_; refine awp_seq ?_; refine awp_seq ?_; refine awp_region ?_; refine awps_stp0 rfl rfl (by decide) (stp_move (.inl rfl) rfl) ?_; refine awps_call (avs := [_]) true rfl rfl rfl (by decide) en_almagestlaw11_num rfl rfl (num11_ok _) rfl rfl ?_
    refine awps_stp0 rfl rfl (by decide) (stp_binI rfl rfl rfl rfl) ?_; refine awps_nil ?_; refine thenQ_nil ?_; refine awp_cond rfl (fun c4 => ?_) (fun c4 => ?_)
    · try simp only [↓cqA, cqB] at c4
      refine awp_seq ?_; refine awp_region ?_; refine awps_stp0 rfl rfl (by decide) (stp_move (.inr rfl) rfl) ?_; refine awps_nil ?_; refine thenQ_nil ?_; refine awp_ret ?_; refine thenQ_ret (inQ_ret (thenQ_ret (thenQ_ret (inQ_ret (thenQ_ret (?_))))))
      -- leaf g19F0Fg34F1Fg49F2F3T4T
      refine ret0 (noL hL) (.inl rfl) (resAs_tmp rfl (resAs_nil)) ?_ ?_
      · rfl
      first
      | exact ⟨rfl, rfl⟩
      | exact absurd rfl (by assumption)
      | exact absurd trivial (by assumption)
      | exact absurd (show true = false by assumption) (by decide)
      | exact absurd (show false = true by assumption) (by decide)
      | (exfalso; omega)
      | trace_state
    try simp only [↓cqA, cqB] at c4
    refine awp_skip ?_; refine thenQ_nil ?_; refine awp_seq ?_; refine awp_region ?_; refine awps_stp0 rfl rfl (by decide) (stp_move (.inr rfl) rfl) ?_; refine awps_nil ?_; refine thenQ_nil ?_; refine awp_block ?_
    refine awp_while (y.length) (fun i => i ≤ y.length) (fun i => ⟨[(1, .ptr 1 0), (3, .dat false 4 (tmDs (allC p.C).1)), (7, iv (n : Int)), (8, .dat false 4 (tmDs y)), (10, iv (i : Int))], [(1, .box (lift false (a11D p)))]⟩) (by omega) ?_ (fun i hi hpi => ?_)
    · exact sub_re (SubT.cons (lk_eq rfl (by first | rfl | simp)) (SubT.cons (lk_eq rfl (by first | rfl | simp)) (SubT.cons (lk_eq rfl (by first | rfl | simp)) (SubT.cons (lk_eq rfl (by first | rfl | simp)) (SubT.cons (lk_eq rfl (by first | rfl | simp)) (SubT.nil)))))) (SubO.cons (ok_eq rfl (by rfl)) (SubO.nil)) rfl rfl (noL' (noL hL) _)
    refine awp_seq ?_; refine awp_seq ?_; refine awp_region ?_; refine awps_stp0 rfl rfl (by decide) (stp_move (.inl rfl) rfl) ?_; refine awps_stp0 rfl rfl (by decide) (stp_move (.inl rfl) rfl) ?_
    first | refine awps_stp0 rfl rfl (by decide) (stp_len_dat rfl sl_S_api_Term rfl) ?_ | refine awps_stp0 rfl rfl (by decide) (stp_len_rowd rfl sl_S_api_Term rfl rfl) ?_ | refine awps_stp0 rfl rfl (by decide) (stp_len_nil rfl sl_S_api_Term rfl) ?_ | refine awps_stp0 rfl rfl (by decide) (stp_len_vw rfl sl_S_api_Term rfl) ?_
    refine awps_stp0 rfl rfl (by decide) (stp_binI rfl rfl rfl rfl) ?_; refine awps_nil ?_; refine thenQ_nil ?_; refine awp_cond rfl (fun c5 => ?_) (fun c5 => ?_)
    · try simp only [↓cqA, cqB] at c5
      obtain ⟨t, ht⟩ := get_of_lt (l := y) (k := i) (by omega)
      have htm := List.mem_of_getElem? ht
      have hta := hyn.atk t htm
      refine awp_skip ?_; refine thenQ_nil ?_; refine awp_seq ?_; refine awp_block ?_; refine awp_seq ?_; refine awp_region ?_; refine awps_stp0 rfl rfl (by decide) (stp_move (.inr rfl) rfl) ?_; refine awps_nil ?_; refine thenQ_nil ?_; refine awp_seq ?_; refine awp_seq ?_; refine awp_region ?_; refine awps_stp0 rfl rfl (by decide) (stp_move (.inr rfl) rfl) ?_; refine awps_nil ?_
      refine thenQ_nil ?_; refine awp_block ?_; refine awp_while ((allC p.C).1.length) (fun j => j ≤ (allC p.C).1.length) (fun j => ⟨[(1, .ptr 1 0), (3, .dat false 4 (tmDs (allC p.C).1)), (7, iv (n : Int)), (8, .dat false 4 (tmDs y)), (10, iv (i : Int)), (11, bv (thrB t ((allC p.C).1.take j))), (12, iv (j : Int))], [(1, .box (lift false (a11D p)))]⟩) (by omega) ?_ (fun j hj hpj => ?_)
      · exact sub_re (SubT.cons (lk_eq rfl (by first | rfl | simp)) (SubT.cons (lk_eq rfl (by first | rfl | simp)) (SubT.cons (lk_eq rfl (by first | rfl | simp)) (SubT.cons (lk_eq rfl (by first | rfl | simp)) (SubT.cons (lk_eq rfl (by first | rfl | simp)) (SubT.cons (lk_eq rfl (by first | rfl | simp)) (SubT.cons (lk_eq rfl (by first | rfl | simp)) (SubT.nil)))))))) (SubO.cons (ok_eq rfl (by rfl)) (SubO.nil)) rfl rfl (noL' (noL hL) _)
      refine awp_seq ?_; refine awp_seq ?_; refine awp_region ?_; refine awps_stp0 rfl rfl (by decide) (stp_move (.inl rfl) rfl) ?_; refine awps_stp0 rfl rfl (by decide) (stp_move (.inl rfl) rfl) ?_
      first | refine awps_stp0 rfl rfl (by decide) (stp_len_dat rfl sl_S_api_Term rfl) ?_ | refine awps_stp0 rfl rfl (by decide) (stp_len_rowd rfl sl_S_api_Term rfl rfl) ?_ | refine awps_stp0 rfl rfl (by decide) (stp_len_nil rfl sl_S_api_Term rfl) ?_ | refine awps_stp0 rfl rfl (by decide) (stp_len_vw rfl sl_S_api_Term rfl) ?_
      refine awps_stp0 rfl rfl (by decide) (stp_binI rfl rfl rfl rfl) ?_; refine awps_nil ?_; refine thenQ_nil ?_; refine awp_cond rfl (fun c6 => ?_) (fun c6 => ?_)
      · try simp only [↓cqA, cqB] at c6
        obtain ⟨u, hu⟩ := get_of_lt (l := (allC p.C).1) (k := j) (by omega)
        have hua := hK0.atk u (List.mem_of_getElem? hu)
        have hthr := thrB_take (y := t) hu
        refine awp_skip ?_; refine thenQ_nil ?_; refine awp_seq ?_; refine awp_block ?_
        rcases Bool.eq_false_or_eq_true (thrB t ((allC p.C).1.take j)) with l84 | l84
        · have m84 := l84
          try simp only [↓cqA, cqB] at m84
          refine awp_drawG 10 mixed rfl rfl rfl rfl ?_; refine MGo_c0 rfl (by decide) (.run rfl (stp_move (v := .imm (.bool true)) (.inl rfl) (congrArg (fun b => some (AV.imm (Value.bool b))) l84))) ?_; refine MGo_c0 rfl (by decide) (.run rfl (stp_move (.inl rfl) rfl)) ?_; refine MGo_c0 rfl (by decide) (.skip rfl rfl rfl (by decide) (by decide)) ?_
          refine MGo_c0 rfl (by decide) (.skip rfl rfl rfl (by decide) (by decide)) ?_; refine MGo_c0 rfl (by decide) (.skip rfl rfl rfl (by decide) (by decide)) ?_; refine MGo_c0 rfl (by decide) (.skip rfl rfl rfl (by decide) (by decide)) ?_; refine MGo_c0 rfl (by decide) (.skip rfl rfl rfl (by decide) (by decide)) ?_
          refine MGo_c0 rfl (by decide) (.skip rfl rfl rfl (by decide) (by decide)) ?_; refine MGo_c0 rfl (by decide) (.skip rfl rfl rfl (by decide) (by decide)) ?_; refine MGo_c0 rfl (by decide) (.skip rfl rfl rfl (by decide) (by decide)) ?_; refine MGo_nil ⟨rfl, rfl, ?_⟩; refine awps_gs rfl rfl rfl rfl (by decide) rfl (by decide) ?_
          refine awps_stp0 rfl rfl (by decide) (stp_pick rfl rfl rfl) ?_; refine awps_stp0 rfl rfl (by decide) (stp_move (.inr rfl) rfl) ?_; refine awps_nil ?_; refine inQ_nil ?_; refine thenQ_nil ?_; refine awp_region ?_; refine awps_stp0 rfl rfl (by decide) (stp_move (.inl rfl) rfl) ?_; refine awps_stp0 rfl rfl (by decide) (stp_add rfl rfl rfl (by omega)) ?_
          refine awps_stp0 rfl rfl (by decide) (stp_move (.inr rfl) rfl) ?_; refine awps_nil ?_; refine thenQ_nil ?_; refine ⟨?_, ?_, ?_⟩
          · skip
            omega
          · skip
            omega
          exact sub_re (SubT.cons (lk_eq rfl (by first | rfl | simp)) (SubT.cons (lk_eq rfl (by first | rfl | simp)) (SubT.cons (lk_eq rfl (by first | rfl | simp)) (SubT.cons (lk_eq rfl (by first | rfl | simp)) (SubT.cons (lk_eq rfl (by first | rfl | simp)) (SubT.cons (lk_eq rfl (by first | (rw [hthr, l84]; rfl) | (rw [hthr, l84, Bool.false_or]; done))) (SubT.cons (lk_eq rfl (by first | rfl | simp)) (SubT.nil)))))))) (SubO.cons (ok_eq rfl (by rfl)) (SubO.nil)) rfl rfl (noL' (noL hL) _)
        have m84 := l84
        try simp only [↓cqA, cqB] at m84
        refine awp_drawG 10 mixed rfl rfl rfl rfl ?_; refine MGo_c0 rfl (by decide) (.run rfl (stp_move (v := .imm (.bool false)) (.inl rfl) (congrArg (fun b => some (AV.imm (Value.bool b))) l84))) ?_; refine MGo_c0 rfl (by decide) (.run rfl (stp_move (.inl rfl) rfl)) ?_; refine MGo_c0 rfl (by decide) (.want rfl rfl rfl (by decide) (stp_move (.inl rfl) rfl)) ?_
        refine MGo_c0 rfl (by decide) (.want rfl rfl rfl (by decide) (stp_move (.inl rfl) rfl)) ?_
        first | refine MGo_c0 rfl (by decide) (.want rfl rfl rfl (by decide) (stp_indexAddr rfl sl_S_api_Term rfl rfl (by omega) (tmDs_get ht))) ?_ | refine MGo_c0 rfl (by decide) (.want rfl rfl rfl (by decide) (stp_indexAddr_rowd rfl sl_S_api_Term rfl rfl rfl (by omega) (tmDs_get ht))) ?_ | refine MGo_c0 rfl (by decide) (.want rfl rfl rfl (by decide) (stp_indexAddr_row rfl sl_S_api_Term rfl rfl rfl (by omega) (tmDs_get ht) (by decide))) ?_
        first | refine MGo_c0 rfl (by decide) (.want rfl rfl rfl (by decide) (stp_load_all rfl tf_api_Term rfl rfl rfl rfl)) ?_ | refine MGo_c0 rfl (by decide) (.want rfl rfl rfl (by decide) (stp_load rfl tf_api_Term rfl rfl rfl rfl rfl)) ?_ | refine MGo_c0 rfl (by decide) (.want rfl rfl rfl (by decide) (stp_load_elpa rfl tf_api_Term rfl rfl)) ?_ | refine MGo_c0 rfl (by decide) (.want rfl rfl rfl (by decide) (stp_load_elpn rfl tf_api_Term rfl rfl rfl)) ?_
        refine MGo_c0 rfl (by decide) (.want rfl rfl rfl (by decide) (stp_move (.inl rfl) rfl)) ?_; refine MGo_c0 rfl (by decide) (.want rfl rfl rfl (by decide) (stp_move (.inl rfl) rfl)) ?_
        first | refine MGo_c0 rfl (by decide) (.want rfl rfl rfl (by decide) (stp_indexAddr rfl sl_S_api_Term rfl rfl (by omega) (tmDs_get hu))) ?_ | refine MGo_c0 rfl (by decide) (.want rfl rfl rfl (by decide) (stp_indexAddr_rowd rfl sl_S_api_Term rfl rfl rfl (by omega) (tmDs_get hu))) ?_ | refine MGo_c0 rfl (by decide) (.want rfl rfl rfl (by decide) (stp_indexAddr_row rfl sl_S_api_Term rfl rfl rfl (by omega) (tmDs_get hu) (by decide))) ?_
        first | refine MGo_c0 rfl (by decide) (.want rfl rfl rfl (by decide) (stp_load_all rfl tf_api_Term rfl rfl rfl rfl)) ?_ | refine MGo_c0 rfl (by decide) (.want rfl rfl rfl (by decide) (stp_load rfl tf_api_Term rfl rfl rfl rfl rfl)) ?_ | refine MGo_c0 rfl (by decide) (.want rfl rfl rfl (by decide) (stp_load_elpa rfl tf_api_Term rfl rfl)) ?_ | refine MGo_c0 rfl (by decide) (.want rfl rfl rfl (by decide) (stp_load_elpn rfl tf_api_Term rfl rfl rfl)) ?_
        refine MGo_nil ⟨rfl, rfl, ?_⟩; refine awps_g0 rfl rfl rfl (by decide) rfl (by decide) (stp_call (avs := [_, _]) true rfl en_almagestref0_EqTerm rfl rfl (EqTerm_ok 5 t u (may_dle hta.may) hta.wf hua.wf) (fun _ => rfl) rfl) ?_; refine awps_stp0 rfl rfl (by decide) (stp_pick rfl rfl rfl) ?_; refine awps_stp0 rfl rfl (by decide) (stp_move (.inr rfl) rfl) ?_; refine awps_nil ?_
        refine inQ_nil ?_; refine thenQ_nil ?_; refine awp_region ?_; refine awps_stp0 rfl rfl (by decide) (stp_move (.inl rfl) rfl) ?_; refine awps_stp0 rfl rfl (by decide) (stp_add rfl rfl rfl (by omega)) ?_; refine awps_stp0 rfl rfl (by decide) (stp_move (.inr rfl) rfl) ?_; refine awps_nil ?_; refine thenQ_nil ?_; refine ⟨?_, ?_, ?_⟩
        · skip
          omega
        · skip
          omega
        exact sub_re (SubT.cons (lk_eq rfl (by first | rfl | simp)) (SubT.cons (lk_eq rfl (by first | rfl | simp)) (SubT.cons (lk_eq rfl (by first | rfl | simp)) (SubT.cons (lk_eq rfl (by first | rfl | simp)) (SubT.cons (lk_eq rfl (by first | rfl | simp)) (SubT.cons (lk_eq rfl (by first | (rw [hthr, l84]; rfl) | (rw [hthr, l84, Bool.false_or]; done))) (SubT.cons (lk_eq rfl (by first | rfl | simp)) (SubT.nil)))))))) (SubO.cons (ok_eq rfl (by rfl)) (SubO.nil)) rfl rfl (noL' (noL hL) _)
      try simp only [↓cqA, cqB] at c6
      have hthr : thrB t ((allC p.C).1.take j) = true := by
        rw [List.take_of_length_le (by omega), thrB]
        exact List.any_eq_true.2 ⟨t, hyk t htm, eqT_self (may_dle hta.may)⟩
      rw [hthr]
      refine awp_exit ?_; refine thenQ_exit (thenQ_exit (inQ_hit ?_)); refine thenQ_nil ?_; refine awp_seq ?_; refine awp_region ?_; refine awps_stp0 rfl rfl (by decide) (stp_move (.inl rfl) rfl) ?_; refine awps_stp0 rfl rfl (by decide) (stp_not rfl rfl) ?_; refine awps_nil ?_; refine thenQ_nil ?_; refine awp_cond rfl (fun c7 => ?_) (fun c7 => ?_)
      · try simp only [↓cqA, cqB] at c7
        refine awp_seq ?_; refine awp_region ?_; refine awps_stp0 rfl rfl (by decide) (stp_move (.inr rfl) rfl) ?_; refine awps_nil ?_; refine thenQ_nil ?_; refine awp_ret ?_; refine inQ_ret (thenQ_ret (thenQ_ret (inQ_ret (inQ_ret (thenQ_ret (thenQ_ret (inQ_ret (thenQ_ret (?_)))))))))
        -- leaf g19F0Fg34F1Fg49F2F3T4F5T6F7T
        refine ret0 (noL hL) (.inl rfl) (resAs_tmp rfl (resAs_nil)) ?_ ?_
        · rfl
        first
        | exact ⟨rfl, rfl⟩
        | exact absurd rfl (by assumption)
        | exact absurd trivial (by assumption)
        | exact absurd (show true = false by assumption) (by decide)
        | exact absurd (show false = true by assumption) (by decide)
        | (exfalso; omega)
        | trace_state
      try simp only [↓cqA, cqB] at c7
      refine awp_skip ?_; refine inQ_nil ?_; refine thenQ_nil ?_; refine awp_region ?_; refine awps_stp0 rfl rfl (by decide) (stp_move (.inl rfl) rfl) ?_; refine awps_stp0 rfl rfl (by decide) (stp_add rfl rfl rfl (by omega)) ?_; refine awps_stp0 rfl rfl (by decide) (stp_move (.inr rfl) rfl) ?_; refine awps_nil ?_; refine thenQ_nil ?_; refine ⟨?_, ?_, ?_⟩
      · skip
        omega
      · skip
        omega
      exact sub_re (SubT.cons (lk_eq rfl (by first | rfl | simp)) (SubT.cons (lk_eq rfl (by first | rfl | simp)) (SubT.cons (lk_eq rfl (by first | rfl | simp)) (SubT.cons (lk_eq rfl (by first | rfl | simp)) (SubT.cons (lk_eq rfl (by first | rfl | simp)) (SubT.nil)))))) (SubO.cons (ok_eq rfl (by rfl)) (SubO.nil)) rfl rfl (noL' (noL hL) _)
    try simp only [↓cqA, cqB] at c5
    refine awp_exit ?_; refine thenQ_exit (thenQ_exit (inQ_hit ?_)); refine inQ_nil ?_; refine thenQ_nil ?_; refine awp_region ?_; refine awps_stp0 rfl rfl (by decide) (stp_move (.inl rfl) rfl) ?_; refine awps_stp0 rfl rfl (by decide) (stp_add rfl rfl rfl (by omega)) ?_; refine awps_stp0 rfl rfl (by decide) (stp_move (.inr rfl) rfl) ?_; refine awps_nil ?_; refine thenQ_nil ?_
    refine ⟨?_, ?_, ?_⟩
    · skip
      omega
    · skip
      omega
    exact sub_re (SubT.cons (lk_eq rfl (by first | rfl | simp)) (SubT.cons (lk_eq rfl (by first | rfl | simp)) (SubT.cons (lk_eq rfl (by first | rfl | simp)) (SubT.nil)))) (SubO.cons (ok_eq rfl (by rfl)) (SubO.nil)) rfl rfl (noL' (noL hL) _)
  try simp only [↓cqA, cqB] at c3
  refine awp_exit ?_; refine thenQ_exit (thenQ_exit (inQ_hit ?_)); refine thenQ_nil ?_; refine awp_seq ?_; refine awp_region ?_; refine awps_stp0 rfl rfl (by decide) (stp_move (.inr rfl) rfl) ?_; refine awps_nil ?_; refine thenQ_nil ?_; refine awp_seq ?_; refine awp_seq ?_; refine awp_region ?_; refine awps_stp0 rfl rfl (by decide) (stp_move (.inr rfl) rfl) ?_; refine awps_nil ?_
  refine thenQ_nil ?_; refine awp_block ?_
  refine awp_whileE (α := List Tm) ((allC p.C).1.length + 1) (fun m a => Kn a ∧ m ≤ a.length ∧ m ≤ 61 ∧ allR p.C (61 - m) a = ((allC p.C).1, 0)) (fun m a => ⟨[(1, .ptr 1 0), (3, .dat false 4 (tmDs (allC p.C).1)), (13, .dat false 4 (tmDs a)), (14, iv (m : Int))], [(1, .box (lift false (a11D p)))]⟩) ([]) (⟨Kn.nil, by simp, by simp, hall⟩) ?_ (fun m a hm hpm => ?_)
  · exact Sub.trans (sub_nil_dat (t := 13) 4 false rfl) (sub_re (SubT.cons (lk_eq rfl (by first | rfl | simp)) (SubT.cons (lk_eq rfl (by first | rfl | simp)) (SubT.cons (lk_eq rfl (by first | rfl | simp)) (SubT.cons (lk_eq rfl (by first | rfl | simp)) (SubT.nil))))) (SubO.cons (ok_eq rfl (by rfl)) (SubO.nil)) rfl rfl (noL' (noL hL) _))
  obtain ⟨hka, hma, hm61, har⟩ := hpm
  obtain ⟨hae1, hae2, hae3⟩ := allR_end hwC hc _ a _ hka har
  have hal := tmDs_length a
  have han := tmDs_length (nextL p.C a)
  obtain ⟨hgp, hga, hgn⟩ := grow_perm hwC hc hka
  refine awp_seq ?_; refine awp_seq ?_; refine awp_region ?_; refine awps_stp0 rfl rfl (by decide) (stp_move (.inl rfl) rfl) ?_; refine awps_stp0 rfl rfl (by decide) (stp_move (.inl rfl) rfl) ?_
  first | refine awps_stp0 rfl rfl (by decide) (stp_len_dat rfl sl_S_api_Term rfl) ?_ | refine awps_stp0 rfl rfl (by decide) (stp_len_rowd rfl sl_S_api_Term rfl rfl) ?_ | refine awps_stp0 rfl rfl (by decide) (stp_len_nil rfl sl_S_api_Term rfl) ?_ | refine awps_stp0 rfl rfl (by decide) (stp_len_vw rfl sl_S_api_Term rfl) ?_
  refine awps_stp0 rfl rfl (by decide) (stp_binI rfl rfl rfl rfl) ?_; refine awps_nil ?_; refine thenQ_nil ?_; refine awp_cond rfl (fun c8 => ?_) (fun c8 => ?_)
  · try simp only [↓cqA, cqB] at c8
    have hru : allR p.C (61 - m) a = if (nextL p.C a).length = 0 then (a, 0) else if 60 < a.length + (nextL p.C a).length then ([], 2) else allR p.C (61 - (m + 1)) (srtU (a ++ nextL p.C a)) := by
      rw [show 61 - m = (61 - (m + 1)) + 1 by omega]; rfl
    have h60a : a.length + (nextL p.C a).length ≤ 60 := by
      by_cases h0 : (nextL p.C a).length = 0
      · have := hka.len; omega
      · by_cases h6 : 60 < a.length + (nextL p.C a).length
        · rw [hru, if_neg h0, if_pos h6] at har; exact absurd (congrArg Prod.snd har) (show ¬ (2 : Int) = 0 by decide)
        · omega
    have hkeyA := knownStep_ok p.C (by omega) hwC hgood a hka (hBd hgood a hka) h60a
    refine awp_skip ?_; refine thenQ_nil ?_; refine awp_seq ?_; refine awp_block ?_; refine awp_seq ?_; refine awp_region ?_
    first | refine awps_stp0 rfl rfl (by decide) (stp_fieldAddr rfl fo_almagestlaw11_Ask_0 rfl) ?_ | refine awps_stp0 rfl rfl (by decide) (stp_fieldAddr_elp rfl fo_almagestlaw11_Ask_0 rfl) ?_
    first | refine awps_stp0 rfl rfl (by decide) (stp_load rfl tf_S_api_Clause rfl rfl rfl rfl rfl) ?_ | refine awps_stp0 rfl rfl (by decide) (stp_load_elp1 rfl tf_S_api_Clause rfl) ?_ | refine awps_stp0 rfl rfl (by decide) (stp_load_elpn rfl tf_S_api_Clause rfl rfl rfl) ?_
    refine awps_stp0 rfl rfl (by decide) (stp_move (.inl rfl) rfl) ?_; refine awps_call (avs := [_, _]) false rfl rfl rfl (by decide) en_known_Step rfl rfl (hkeyA) rfl rfl ?_; refine awps_stp0 rfl rfl (by decide) (stp_move (.inl rfl) rfl) ?_; refine awps_stp0 rfl rfl (by decide) (stp_extract rfl rfl rfl) ?_; refine awps_stp0 rfl rfl (by decide) (stp_extract rfl rfl rfl) ?_
    refine awps_stp0 rfl rfl (by decide) (stp_move (.inr rfl) rfl) ?_; refine awps_stp0 rfl rfl (by decide) (stp_move (.inr rfl) rfl) ?_; refine awps_nil ?_; refine thenQ_nil ?_; refine awp_seq ?_; refine awp_seq ?_; refine awp_region ?_; refine awps_stp0 rfl rfl (by decide) (stp_move (.inl rfl) rfl) ?_
    refine awps_call (avs := [_]) true rfl rfl rfl (by decide) en_almagestlaw11_num rfl rfl (num11_ok _) rfl rfl ?_; refine awps_stp0 rfl rfl (by decide) (stp_binI rfl rfl rfl rfl) ?_; refine awps_nil ?_; refine thenQ_nil ?_; refine awp_cond rfl (fun c9 => ?_) (fun c9 => ?_)
    · try simp only [↓cqA, cqB] at c9
      refine awp_seq ?_; refine awp_region ?_; refine awps_stp0 rfl rfl (by decide) (stp_move (.inr rfl) rfl) ?_; refine awps_nil ?_; refine thenQ_nil ?_; refine awp_ret ?_; refine thenQ_ret (inQ_ret (thenQ_ret (thenQ_ret (inQ_ret (thenQ_ret (?_))))))
      -- leaf g19F0Fg34F1Fg49F2F3F8T9T
      refine ret0 (noL hL) (.inl rfl) (resAs_tmp rfl (resAs_nil)) ?_ ?_
      · rfl
      first
      | exact ⟨rfl, rfl⟩
      | exact absurd rfl (by assumption)
      | exact absurd trivial (by assumption)
      | exact absurd (show true = false by assumption) (by decide)
      | exact absurd (show false = true by assumption) (by decide)
      | (exfalso; omega)
      | trace_state
    try simp only [↓cqA, cqB] at c9
    refine awp_skip ?_; refine thenQ_nil ?_; refine awp_seq ?_; refine awp_seq ?_; refine awp_region ?_; refine awps_stp0 rfl rfl (by decide) (stp_move (.inl rfl) rfl) ?_
    first | refine awps_stp0 rfl rfl (by decide) (stp_len_dat rfl sl_S_api_Term rfl) ?_ | refine awps_stp0 rfl rfl (by decide) (stp_len_rowd rfl sl_S_api_Term rfl rfl) ?_ | refine awps_stp0 rfl rfl (by decide) (stp_len_nil rfl sl_S_api_Term rfl) ?_ | refine awps_stp0 rfl rfl (by decide) (stp_len_vw rfl sl_S_api_Term rfl) ?_
    refine awps_stp0 rfl rfl (by decide) (stp_binI rfl rfl rfl rfl) ?_; refine awps_nil ?_; refine thenQ_nil ?_; refine awp_cond rfl (fun c10 => ?_) (fun c10 => ?_)
    · try simp only [↓cqA, cqB] at c10
      have hfin : a = (allC p.C).1 := by rw [hru, if_pos (by omega)] at har; exact congrArg Prod.fst har
      refine awp_exit ?_; refine thenQ_exit (inQ_other rfl (thenQ_exit (thenQ_exit (inQ_hit ?_)))); refine thenQ_nil ?_; refine awp_seq ?_
      have heq : eqL (eqT 5) a (allC p.C).1 = true := (eqL_iff (eqT 5) _ _ fun u v hu => eqT_iff 5 u v (hka.dl u hu)).2 (by first | exact hfin | (exfalso; omega))
      have hkeyE := EqTerms_ok 5 (EqTerm_ok 5) a (allC p.C).1 hka.dl (wfs_of fun t ht => (hka.atk t ht).wf) (wfs_of fun t ht => (hK0.atk t ht).wf) (by omega) (by omega)
      rw [heq] at hkeyE
      refine awp_region ?_; refine awps_stp0 rfl rfl (by decide) (stp_move (.inl rfl) rfl) ?_; refine awps_stp0 rfl rfl (by decide) (stp_move (.inl rfl) rfl) ?_; refine awps_call (avs := [_, _]) true rfl rfl rfl (by decide) en_almagestref0_EqTerms rfl rfl (hkeyE) rfl rfl ?_; refine awps_stp0 rfl rfl (by decide) (stp_move (.inl rfl) rfl) ?_
      refine awps_split 123 rfl (fun g123 => ?_) (fun g123 => ?_)
      · try simp only [↓cqA, cqB] at g123
        refine awps_g0 rfl rfl rfl (by decide) rfl (by decide) (stp_call (avs := []) true rfl en_almagestlaw11_wakes rfl rfl (wakes11_ok) (fun _ => rfl) rfl) ?_; refine awps_stp0 rfl rfl (by decide) (stp_pick rfl rfl rfl) ?_; refine awps_stp0 rfl rfl (by decide) (stp_move (.inr rfl) rfl) ?_; refine awps_nil ?_; refine thenQ_nil ?_; refine awp_ret ?_
        -- leaf g19F0Fg34F1Fg49F2F3F8T9F10Tg123T
        refine ret0 (noL hL) (.inl rfl) (resAs_tmp rfl (resAs_nil)) ?_ ?_
        · rfl
        first
        | exact ⟨rfl, rfl⟩
        | exact absurd rfl (by assumption)
        | exact absurd trivial (by assumption)
        | exact absurd (show true = false by assumption) (by decide)
        | exact absurd (show false = true by assumption) (by decide)
        | (exfalso; omega)
        | trace_state
      try simp only [↓cqA, cqB] at g123
      refine awps_gs rfl rfl rfl rfl (by decide) rfl (by decide) ?_; refine awps_stp0 rfl rfl (by decide) (stp_pick rfl rfl rfl) ?_; refine awps_stp0 rfl rfl (by decide) (stp_move (.inr rfl) rfl) ?_; refine awps_nil ?_; refine thenQ_nil ?_; refine awp_ret ?_
      -- leaf g19F0Fg34F1Fg49F2F3F8T9F10Tg123F
      refine ret0 (noL hL) (.inl rfl) (resAs_tmp rfl (resAs_nil)) ?_ ?_
      · rfl
      first
      | exact ⟨rfl, rfl⟩
      | exact absurd rfl (by assumption)
      | exact absurd trivial (by assumption)
      | exact absurd (show true = false by assumption) (by decide)
      | exact absurd (show false = true by assumption) (by decide)
      | (exfalso; omega)
      | trace_state
    try simp only [↓cqA, cqB] at c10
    have har2 : allR p.C (61 - (m + 1)) (srtU (a ++ nextL p.C a)) = ((allC p.C).1, 0) := by rw [hru, if_neg (by omega), if_neg (by omega)] at har; exact har
    have hkm := merged_ok a (nextL p.C a) (by have := hka.len; omega) (by omega) hka.dl (fun t ht => (hka.atk t ht).wf) (fun t ht => (nextL_atk hwC hc hka.atk t ht).wf)
    rw [mrg_next hwC hc hka] at hkm
    refine awp_skip ?_; refine thenQ_nil ?_; refine awp_region ?_; refine awps_stp0 rfl rfl (by decide) (stp_move (.inl rfl) rfl) ?_; refine awps_stp0 rfl rfl (by decide) (stp_move (.inl rfl) rfl) ?_; refine awps_call (avs := [_, _]) false rfl rfl rfl (by decide) en_almagestlaw11_merged rfl rfl (hkm) rfl rfl ?_; refine awps_stp0 rfl rfl (by decide) (stp_move (.inr rfl) rfl) ?_
    refine awps_nil ?_; refine inQ_nil ?_; refine thenQ_nil ?_; refine awp_region ?_; refine awps_stp0 rfl rfl (by decide) (stp_move (.inl rfl) rfl) ?_; refine awps_stp0 rfl rfl (by decide) (stp_add rfl rfl rfl (by omega)) ?_; refine awps_stp0 rfl rfl (by decide) (stp_move (.inr rfl) rfl) ?_; refine awps_nil ?_; refine thenQ_nil ?_; refine ⟨?_, srtU (a ++ nextL p.C a), ?_, ?_⟩
    · skip
      omega
    · skip
      refine ⟨hka.grow hwC hc h60a, ?_, by omega, har2⟩
      rw [hgp.length_eq, List.length_append]; omega
    exact sub_re (SubT.cons (lk_eq rfl (by first | rfl | simp)) (SubT.cons (lk_eq rfl (by first | rfl | simp)) (SubT.cons (lk_eq rfl (by first | rfl | simp)) (SubT.cons (lk_eq rfl (by first | rfl | simp)) (SubT.nil))))) (SubO.cons (ok_eq rfl (by rfl)) (SubO.nil)) rfl rfl (noL' (noL hL) _)
  try simp only [↓cqA, cqB] at c8
  refine awp_exit ?_; refine thenQ_exit (thenQ_exit (inQ_hit ?_)); refine thenQ_nil ?_; refine awp_seq ?_
  have heq : eqL (eqT 5) a (allC p.C).1 = true := (eqL_iff (eqT 5) _ _ fun u v hu => eqT_iff 5 u v (hka.dl u hu)).2 (by first | exact hfin | (exfalso; omega))
  have hkeyE := EqTerms_ok 5 (EqTerm_ok 5) a (allC p.C).1 hka.dl (wfs_of fun t ht => (hka.atk t ht).wf) (wfs_of fun t ht => (hK0.atk t ht).wf) (by omega) (by omega)
  rw [heq] at hkeyE
  refine awp_region ?_; refine awps_stp0 rfl rfl (by decide) (stp_move (.inl rfl) rfl) ?_; refine awps_stp0 rfl rfl (by decide) (stp_move (.inl rfl) rfl) ?_; refine awps_call (avs := [_, _]) true rfl rfl rfl (by decide) en_almagestref0_EqTerms rfl rfl (hkeyE) rfl rfl ?_; refine awps_stp0 rfl rfl (by decide) (stp_move (.inl rfl) rfl) ?_; refine awps_split 123 rfl (fun g123 => ?_) (fun g123 => ?_)
  · try simp only [↓cqA, cqB] at g123
    refine awps_g0 rfl rfl rfl (by decide) rfl (by decide) (stp_call (avs := []) true rfl en_almagestlaw11_wakes rfl rfl (wakes11_ok) (fun _ => rfl) rfl) ?_; refine awps_stp0 rfl rfl (by decide) (stp_pick rfl rfl rfl) ?_; refine awps_stp0 rfl rfl (by decide) (stp_move (.inr rfl) rfl) ?_; refine awps_nil ?_; refine thenQ_nil ?_; refine awp_ret ?_
    -- leaf g19F0Fg34F1Fg49F2F3F8Fg123T
    refine ret0 (noL hL) (.inl rfl) (resAs_tmp rfl (resAs_nil)) ?_ ?_
    · rfl
    first
    | exact ⟨rfl, rfl⟩
    | exact absurd rfl (by assumption)
    | exact absurd trivial (by assumption)
    | exact absurd (show true = false by assumption) (by decide)
    | exact absurd (show false = true by assumption) (by decide)
    | (exfalso; omega)
    | trace_state
  try simp only [↓cqA, cqB] at g123
  refine awps_gs rfl rfl rfl rfl (by decide) rfl (by decide) ?_; refine awps_stp0 rfl rfl (by decide) (stp_pick rfl rfl rfl) ?_; refine awps_stp0 rfl rfl (by decide) (stp_move (.inr rfl) rfl) ?_; refine awps_nil ?_; refine thenQ_nil ?_; refine awp_ret ?_
  -- leaf g19F0Fg34F1Fg49F2F3F8Fg123F
  refine ret0 (noL hL) (.inl rfl) (resAs_tmp rfl (resAs_nil)) ?_ ?_
  · rfl
  first
  | exact ⟨rfl, rfl⟩
  | exact absurd rfl (by assumption)
  | exact absurd trivial (by assumption)
  | exact absurd (show true = false by assumption) (by decide)
  | exact absurd (show false = true by assumption) (by decide)
  | (exfalso; omega)
  | trace_state
end Go.Proofs.YtdecgkhdbfgldaaGreat
