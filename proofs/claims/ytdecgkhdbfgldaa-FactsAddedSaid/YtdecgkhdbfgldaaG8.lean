/- Part 8 of the proof: Jc, Rdc. -/
import Derived.Test.YtdecgkhdbfgldaaG7
set_option linter.unusedVariables false
set_option linter.unusedSimpArgs false
set_option maxRecDepth 8000
namespace Go.Proofs.Ytdecgkhdbfgldaa
open Go
theorem addL_wf {l : List Kp} (hw : ∀ k ∈ l, k.wf) {n : Int} (hn : i64 n) {f : Ft} (hf : f.wf) : ∀ k ∈ addL l n f, k.wf := fun k hk => by
  rw [addL] at hk
  split at hk
  · rcases List.mem_append.1 hk with h | h
    · exact hw k h
    · rw [List.mem_singleton.1 h]; exact ⟨hn, hf⟩
  · cases hk
theorem FactsAdded_ok (p : Ask9) (hpw : p.wf) : PF 9 [.agg (lift false (a9D p))] (bv true) := by
  obtain ⟨L, l, Z⟩ := p
  obtain ⟨⟨hlL, hwL⟩, ⟨hl, hwF⟩, hlZ, hwZ⟩ := id hpw
  have hlen := ftDs_length l
  have hlen2 : (ftDs (Ask9.mk L l Z).F).length = l.length := hlen
  simp only [lenOk] at hl
  refine AC_intro Try.func9 rfl Try.ntmps9 (Nat.le_of_ble_eq_true rfl) fun c hL hQ hDD => ?_; refine awp_seq ?_; refine awp_region ?_; refine awps_stp1 rfl rfl (by decide) (stp_box 1 rfl rfl rfl) rfl ?_; refine awps_stp0 rfl rfl (by decide) (stp_move (.inr rfl) rfl) ?_; refine awps_nil ?_; refine thenQ_nil ?_; refine awp_seq ?_; refine awp_seq ?_; refine awp_region ?_; refine awps_stp0 rfl rfl (by decide) (stp_load_all rfl tf_almagestlaw9_Ask rfl rfl rfl rfl) ?_
  refine awps_call (avs := [_]) true rfl rfl rfl (by decide) en_almagestlaw9_Heavy rfl rfl (Heavy9_ok _ (by assumption)) rfl rfl ?_; refine awps_nil ?_; refine thenQ_nil ?_; refine awp_cond rfl (fun c0 => ?_) (fun c0 => ?_)
  · try simp only [↓cqA, cqB] at c0
    refine awp_seq ?_; refine awp_region ?_; refine awps_stp0 rfl rfl (by decide) (stp_move (.inr rfl) rfl) ?_; refine awps_nil ?_; refine thenQ_nil ?_; refine awp_ret ?_; refine thenQ_ret (?_)
    -- leaf 0T
    refine ret0 (noL hL) (.inl rfl) (resAs_tmp rfl (resAs_nil)) ?_ ?_
    · rfl
    first
    | exact ⟨rfl, rfl⟩
    | (exfalso; omega)
    | exact absurd trivial (by assumption)
    | trace_state
  try simp only [↓cqA, cqB] at c0
  refine awp_skip ?_; refine thenQ_nil ?_; refine awp_seq ?_; refine awp_region ?_; refine awps_stp0 rfl rfl (by decide) (stp_move (.inr rfl) rfl) ?_; refine awps_nil ?_; refine thenQ_nil ?_; refine awp_seq ?_; refine awp_region ?_; refine awps_stp0 rfl rfl (by decide) (stp_move (.inr rfl) rfl) ?_; refine awps_nil ?_; refine thenQ_nil ?_; refine awp_seq ?_; refine awp_seq ?_; refine awp_region ?_; refine awps_stp0 rfl rfl (by decide) (stp_move (.inr rfl) rfl) ?_; refine awps_nil ?_; refine thenQ_nil ?_; refine awp_block ?_
  refine awp_whileE (α := List Kp × Int) (20) (fun k a => listB a.1 = true ∧ (∀ x ∈ a.1, x.wf) ∧ 0 ≤ a.2 ∧ a.2 ≤ 3 * (k : Int)) (fun k a => ⟨[(1, .ptr 1 0), (3, .dat false 7 (kpDs a.1)), (4, iv a.2), (5, iv (k : Int))], [(1, .box (lift false (a9D ⟨L, l, Z⟩)))]⟩) (([], 0)) (⟨rfl, fun x hx => (by cases hx), by simp, by simp⟩) ?_ (fun k a hk hp => ?_)
  · exact Sub.trans (sub_nil_dat (t := 3) 7 false rfl) (sub_re (SubT.cons (lk_eq rfl (by first | rfl | simp)) (SubT.cons (lk_eq rfl (by first | rfl | simp)) (SubT.cons (lk_eq rfl (by first | rfl | simp)) (SubT.cons (lk_eq rfl (by first | rfl | simp)) (SubT.nil))))) (SubO.cons (ok_eq rfl (by rfl)) (SubO.nil)) rfl rfl (noL' (noL hL) _))
  have hal := kpDs_length a.1
  have hal3 := (listB_may hp.1).1
  refine awp_seq ?_; refine awp_seq ?_; refine awp_region ?_; refine awps_stp0 rfl rfl (by decide) (stp_move (.inl rfl) rfl) ?_; refine awps_stp0 rfl rfl (by decide) (stp_fieldAddr rfl fo_almagestlaw9_Ask_1 rfl) ?_; refine awps_stp0 rfl rfl (by decide) (stp_load rfl tf_S_api_Fact rfl rfl rfl rfl rfl) ?_; refine awps_stp0 rfl rfl (by decide) (stp_len_dat rfl sl_S_api_Fact rfl) ?_; refine awps_stp0 rfl rfl (by decide) (stp_binI rfl rfl rfl rfl) ?_; refine awps_stp0 rfl rfl (by decide) (stp_move (.inl rfl) rfl) ?_; refine awps_split 22 rfl (fun g22 => ?_) (fun g22 => ?_)
  · try simp only [↓cqA, cqB] at g22
    refine awps_g0 rfl rfl rfl (by decide) rfl (by decide) (stp_move (.inl rfl) rfl) ?_; refine awps_g0 rfl rfl rfl (by decide) rfl (by decide) (stp_binI rfl rfl rfl rfl) ?_; refine awps_stp0 rfl rfl (by decide) (stp_pick rfl rfl rfl) ?_; refine awps_nil ?_; refine thenQ_nil ?_; refine awp_cond rfl (fun c1 => ?_) (fun c1 => ?_)
    · try simp only [↓cqA, cqB] at c1
      obtain ⟨f, hf⟩ := get_of_lt (l := l) (k := k) (by omega)
      have wf := hwF f (List.mem_of_getElem? hf)
      have hin : i64 a.2 := by simp only [i64]; omega
      have hwA := addL_wf hp.2.1 hin wf
      have hAl := kpDs_length (addL a.1 a.2 f)
      refine awp_skip ?_; refine thenQ_nil ?_; refine awp_seq ?_; refine awp_block ?_; refine awp_seq ?_; refine awp_region ?_; refine awps_stp0 rfl rfl (by decide) (stp_move (.inl rfl) rfl) ?_; refine awps_stp0 rfl rfl (by decide) (stp_move (.inl rfl) rfl) ?_; refine awps_stp0 rfl rfl (by decide) (stp_fieldAddr rfl fo_almagestlaw9_Ask_1 rfl) ?_; refine awps_stp0 rfl rfl (by decide) (stp_load rfl tf_S_api_Fact rfl rfl rfl rfl rfl) ?_; refine awps_stp0 rfl rfl (by decide) (stp_move (.inl rfl) rfl) ?_
      refine awps_stp0 rfl rfl (by decide) (stp_indexAddr rfl sl_S_api_Fact rfl rfl (by omega) (ftDs_get hf)) ?_; refine awps_stp0 rfl rfl (by decide) (stp_load_elpa rfl tf_api_Fact rfl rfl) ?_; refine awps_call (avs := [_, _, _]) true rfl rfl rfl (by decide) en_facts_Add rfl rfl (Add_ok a.1 hp.2.1 a.2 hin f wf) rfl rfl ?_; refine awps_stp0 rfl rfl (by decide) (stp_move (.inl rfl) rfl) ?_; refine awps_stp0 rfl rfl (by decide) (stp_extract rfl rfl rfl) ?_; refine awps_stp0 rfl rfl (by decide) (stp_extract rfl rfl rfl) ?_
      refine awps_stp0 rfl rfl (by decide) (stp_move (.inr rfl) rfl) ?_; refine awps_stp0 rfl rfl (by decide) (stp_move (.inr rfl) rfl) ?_; refine awps_nil ?_; refine thenQ_nil ?_; refine awp_seq ?_; refine awp_seq ?_; refine awp_sub (sub_untag hQ) ?_; refine awp_region ?_; refine awps_stp0 rfl rfl (by decide) (stp_move (.inl rfl) rfl) ?_
      refine awps_call (avs := [_]) true rfl rfl rfl (by decide) en_almagestlaw9_num rfl rfl (num9_ok _) rfl rfl ?_; refine awps_stp0 rfl rfl (by decide) (stp_binI rfl rfl rfl rfl) ?_; refine awps_nil ?_; refine thenQ_nil ?_; refine awp_cond rfl (fun c2 => ?_) (fun c2 => ?_)
      · try simp only [↓cqA, cqB] at c2
        let a2 : List Kp × Int := a
        have hst : listB a2.1 = true ∧ (∀ x ∈ a2.1, x.wf) ∧ 0 ≤ a2.2 ∧ a2.2 ≤ 3 * ((k + 1 : Nat) : Int) := ⟨hp.1, hp.2.1, hp.2.2.1, by have := hp.2.2.2; simp only [a2]; omega⟩
        refine awp_exit ?_; refine thenQ_exit (inQ_hit ?_); refine thenQ_nil ?_; refine awp_region ?_; refine awps_stp0 rfl rfl (by decide) (stp_move (.inl rfl) rfl) ?_; refine awps_stp0 rfl rfl (by decide) (stp_add rfl rfl rfl (by omega)) ?_; refine awps_stp0 rfl rfl (by decide) (stp_move (.inr rfl) rfl) ?_; refine awps_nil ?_; refine thenQ_nil ?_; refine ⟨?_, a2, ?_, ?_⟩
        · skip
          omega
        · skip
          exact hst
        exact sub_re (SubT.cons (lk_eq rfl (by first | rfl | simp)) (SubT.cons (lk_eq rfl (by first | rfl | simp)) (SubT.cons (lk_eq rfl (by first | rfl | simp)) (SubT.cons (lk_eq rfl (by first | rfl | simp)) (SubT.nil))))) (SubO.cons (ok_eq rfl (by rfl)) (SubO.nil)) rfl rfl (noL' (noL hL) _)
      try simp only [↓cqA, cqB] at c2
      have hE : addE a.1 a.2 f = 0 := by omega
      obtain ⟨h1, h2, h3, h4⟩ := add_list hE
      rw [← h1] at h2 h3 h4
      have h5 : (addL a.1 a.2 f).length = a.1.length + 1 := by rw [h1]; simp
      let a2 : List Kp × Int := (addL a.1 a.2 f, a.2 + 3)
      have hst : listB a2.1 = true ∧ (∀ x ∈ a2.1, x.wf) ∧ 0 ≤ a2.2 ∧ a2.2 ≤ 3 * ((k + 1 : Nat) : Int) := ⟨h2, hwA, by have := hp.2.2.1; simp only [a2]; omega, by have := hp.2.2.2; simp only [a2]; omega⟩
      refine awp_skip ?_; refine thenQ_nil ?_; refine awp_seq ?_; refine awp_region ?_; refine awps_stp0 rfl rfl (by decide) (stp_move (.inl rfl) rfl) ?_; refine awps_stp0 rfl rfl (by decide) (stp_fieldAddr rfl fo_almagestlaw9_Ask_1 rfl) ?_; refine awps_stp0 rfl rfl (by decide) (stp_load rfl tf_S_api_Fact rfl rfl rfl rfl rfl) ?_; refine awps_stp0 rfl rfl (by decide) (stp_move (.inl rfl) rfl) ?_; refine awps_stp0 rfl rfl (by decide) (stp_indexAddr rfl sl_S_api_Fact rfl rfl (by omega) (ftDs_get hf)) ?_; refine awps_stp0 rfl rfl (by decide) (stp_load_elpa rfl tf_api_Fact rfl rfl) ?_
      refine awps_call (avs := [_, _]) true rfl rfl rfl (by decide) en_facts_Find rfl rfl (Find_ok (addL a.1 a.2 f) hwA f wf) rfl rfl ?_; refine awps_stp0 rfl rfl (by decide) (stp_move (.inl rfl) rfl) ?_; refine awps_stp0 rfl rfl (by decide) (stp_extract rfl rfl rfl) ?_; refine awps_stp0 rfl rfl (by decide) (stp_extract rfl rfl rfl) ?_
      refine awps_stp0 rfl rfl (by decide) (stp_move (.inr rfl) rfl) ?_; refine awps_stp0 rfl rfl (by decide) (stp_move (.inr rfl) rfl) ?_; refine awps_nil ?_; refine thenQ_nil ?_; refine awp_seq ?_; refine awp_seq ?_; refine awp_region ?_; refine awps_stp0 rfl rfl (by decide) (stp_move (.inl rfl) rfl) ?_
      refine awps_call (avs := [_]) true rfl rfl rfl (by decide) en_almagestlaw9_num rfl rfl (num9_ok _) rfl rfl ?_; refine awps_stp0 rfl rfl (by decide) (stp_binI rfl rfl rfl rfl) ?_; refine awps_stp0 rfl rfl (by decide) (stp_move (.inl rfl) rfl) ?_; refine awps_split 55 rfl (fun g55 => ?_) (fun g55 => ?_)
      · try simp only [↓cqA, cqB] at g55
        refine awps_gs rfl rfl rfl rfl (by decide) rfl (by decide) ?_; refine awps_gs rfl rfl rfl rfl (by decide) rfl (by decide) ?_; refine awps_gs rfl rfl rfl rfl (by decide) rfl (by decide) ?_; refine awps_stp0 rfl rfl (by decide) (stp_pick rfl rfl rfl) ?_; refine awps_stp0 rfl rfl (by decide) (stp_move (.inl rfl) rfl) ?_; refine awps_gs rfl rfl rfl rfl (by decide) rfl (by decide) ?_
        refine awps_gs rfl rfl rfl rfl (by decide) rfl (by decide) ?_; refine awps_gs rfl rfl rfl rfl (by decide) rfl (by decide) ?_; refine awps_gs rfl rfl rfl rfl (by decide) rfl (by decide) ?_; refine awps_gs rfl rfl rfl rfl (by decide) rfl (by decide) ?_; refine awps_gs rfl rfl rfl rfl (by decide) rfl (by decide) ?_; refine awps_stp0 rfl rfl (by decide) (stp_pick rfl rfl rfl) ?_
        refine awps_nil ?_; refine thenQ_nil ?_; refine awp_condT rfl ?_; refine awp_seq ?_; refine awp_region ?_; refine awps_stp0 rfl rfl (by decide) (stp_move (.inr rfl) rfl) ?_; refine awps_nil ?_; refine thenQ_nil ?_; refine awp_ret ?_; refine thenQ_ret (inQ_ret (thenQ_ret (thenQ_ret (inQ_ret (thenQ_ret (?_))))))
        -- leaf 0Fg22T1T2Fg55T
        refine ret0 (noL hL) (.inl rfl) (resAs_tmp rfl (resAs_nil)) ?_ ?_
        · rfl
        first
        | exact ⟨rfl, rfl⟩
        | (exfalso; omega)
        | exact absurd trivial (by assumption)
        | trace_state
      try simp only [↓cqA, cqB] at g55
      refine awps_g0 rfl rfl rfl (by decide) rfl (by decide) (stp_move (.inl rfl) rfl) ?_; refine awps_g0 rfl rfl rfl (by decide) rfl (by decide) (stp_move (.inl rfl) rfl) ?_; refine awps_g0 rfl rfl rfl (by decide) rfl (by decide) (stp_binI rfl rfl rfl rfl) ?_; refine awps_stp0 rfl rfl (by decide) (stp_pick rfl rfl rfl) ?_; refine awps_stp0 rfl rfl (by decide) (stp_move (.inl rfl) rfl) ?_; refine awps_split 60 rfl (fun g60 => ?_) (fun g60 => ?_)
      · try simp only [↓cqA, cqB] at g60
        refine awps_gs rfl rfl rfl rfl (by decide) rfl (by decide) ?_; refine awps_gs rfl rfl rfl rfl (by decide) rfl (by decide) ?_; refine awps_gs rfl rfl rfl rfl (by decide) rfl (by decide) ?_; refine awps_gs rfl rfl rfl rfl (by decide) rfl (by decide) ?_; refine awps_gs rfl rfl rfl rfl (by decide) rfl (by decide) ?_; refine awps_gs rfl rfl rfl rfl (by decide) rfl (by decide) ?_
        refine awps_stp0 rfl rfl (by decide) (stp_pick rfl rfl rfl) ?_; refine awps_nil ?_; refine thenQ_nil ?_; refine awp_condT rfl ?_; refine awp_seq ?_; refine awp_region ?_; refine awps_stp0 rfl rfl (by decide) (stp_move (.inr rfl) rfl) ?_; refine awps_nil ?_; refine thenQ_nil ?_; refine awp_ret ?_; refine thenQ_ret (inQ_ret (thenQ_ret (thenQ_ret (inQ_ret (thenQ_ret (?_))))))
        -- leaf 0Fg22T1T2Fg55Fg60T
        refine ret0 (noL hL) (.inl rfl) (resAs_tmp rfl (resAs_nil)) ?_ ?_
        · rfl
        first
        | exact ⟨rfl, rfl⟩
        | (exfalso; omega)
        | exact absurd trivial (by assumption)
        | trace_state
      try simp only [↓cqA, cqB] at g60
      refine awps_g0 rfl rfl rfl (by decide) rfl (by decide) (stp_move (.inl rfl) rfl) ?_; refine awps_g0 rfl rfl rfl (by decide) rfl (by decide) (stp_len_dat rfl sl_S_api_Kept rfl) ?_; refine awps_g0 rfl rfl rfl (by decide) rfl (by decide) (stp_move (.inl rfl) rfl) ?_; refine awps_g0 rfl rfl rfl (by decide) rfl (by decide) (stp_len_dat rfl sl_S_api_Kept rfl) ?_
      refine awps_g0 rfl rfl rfl (by decide) rfl (by decide) (stp_add rfl rfl rfl (by omega)) ?_; refine awps_g0 rfl rfl rfl (by decide) rfl (by decide) (stp_binI rfl rfl rfl rfl) ?_; refine awps_stp0 rfl rfl (by decide) (stp_pick rfl rfl rfl) ?_; refine awps_nil ?_; refine thenQ_nil ?_; refine awp_cond rfl (fun c3 => ?_) (fun c3 => ?_)
      · try simp only [↓cqA, cqB] at c3
        refine awp_seq ?_; refine awp_region ?_; refine awps_stp0 rfl rfl (by decide) (stp_move (.inr rfl) rfl) ?_; refine awps_nil ?_; refine thenQ_nil ?_; refine awp_ret ?_; refine thenQ_ret (inQ_ret (thenQ_ret (thenQ_ret (inQ_ret (thenQ_ret (?_))))))
        -- leaf 0Fg22T1T2Fg55Fg60F3T
        refine ret0 (noL hL) (.inl rfl) (resAs_tmp rfl (resAs_nil)) ?_ ?_
        · rfl
        first
        | exact ⟨rfl, rfl⟩
        | (exfalso; omega)
        | exact absurd trivial (by assumption)
        | trace_state
      try simp only [↓cqA, cqB] at c3
      refine awp_skip ?_; refine thenQ_nil ?_; refine awp_seq ?_; refine awp_region ?_; refine awps_stp0 rfl rfl (by decide) (stp_move (.inl rfl) rfl) ?_; refine awps_stp0 rfl rfl (by decide) (stp_move (.inr rfl) rfl) ?_; refine awps_nil ?_; refine thenQ_nil ?_; refine awp_region ?_; refine awps_stp0 rfl rfl (by decide) (stp_move (.inl rfl) rfl) ?_
      refine awps_stp0 rfl rfl (by decide) (stp_add rfl rfl rfl (by omega)) ?_; refine awps_stp0 rfl rfl (by decide) (stp_move (.inr rfl) rfl) ?_; refine awps_nil ?_; refine inQ_nil ?_; refine thenQ_nil ?_; refine awp_region ?_; refine awps_stp0 rfl rfl (by decide) (stp_move (.inl rfl) rfl) ?_; refine awps_stp0 rfl rfl (by decide) (stp_add rfl rfl rfl (by omega)) ?_; refine awps_stp0 rfl rfl (by decide) (stp_move (.inr rfl) rfl) ?_; refine awps_nil ?_; refine thenQ_nil ?_; refine ⟨?_, a2, ?_, ?_⟩
      · skip
        omega
      · skip
        exact hst
      exact sub_re (SubT.cons (lk_eq rfl (by first | rfl | simp)) (SubT.cons (lk_eq rfl (by first | rfl | simp)) (SubT.cons (lk_eq rfl (by first | rfl | simp)) (SubT.cons (lk_eq rfl (by first | rfl | simp)) (SubT.nil))))) (SubO.cons (ok_eq rfl (by rfl)) (SubO.nil)) rfl rfl (noL' (noL hL) _)
    try simp only [↓cqA, cqB] at c1
    refine awp_exit ?_; refine thenQ_exit (thenQ_exit (inQ_hit ?_)); refine thenQ_nil ?_; refine awp_seq ?_
    have hsE : sortedE a.1 = 0 := by rw [sortedE, if_pos hp.1]
    have hsL : sortedL a.1 = srtF (a.1.map Kp.f) := by rw [sortedL, if_pos hp.1]
    have hsl : (sortedL a.1).length = a.1.length := by rw [hsL, (srtF_perm _).length_eq, List.length_map]
    have hsd := ftDs_length (sortedL a.1)
    have hsw : ∀ x ∈ sortedL a.1, x.wf := fun x hx => by
      rw [hsL] at hx
      obtain ⟨k, hk, rfl⟩ := List.mem_map.1 ((srtF_perm _).mem_iff.1 hx)
      exact (hp.2.1 k hk).2
    refine awp_region ?_; refine awps_stp0 rfl rfl (by decide) (stp_move (.inl rfl) rfl) ?_; refine awps_call (avs := [_]) true rfl rfl rfl (by decide) en_facts_Sorted rfl rfl (factsSorted_ok a.1 hp.2.1) rfl rfl ?_; refine awps_stp0 rfl rfl (by decide) (stp_move (.inl rfl) rfl) ?_; refine awps_stp0 rfl rfl (by decide) (stp_extract rfl rfl rfl) ?_
    refine awps_stp0 rfl rfl (by decide) (stp_extract rfl rfl rfl) ?_; refine awps_stp0 rfl rfl (by decide) (stp_move (.inr rfl) rfl) ?_; refine awps_stp0 rfl rfl (by decide) (stp_move (.inr rfl) rfl) ?_; refine awps_nil ?_; refine thenQ_nil ?_; refine awp_seq ?_; refine awp_seq ?_; refine awp_sub (sub_untag hQ) ?_; refine awp_region ?_
    refine awps_stp0 rfl rfl (by decide) (stp_move (.inl rfl) rfl) ?_; refine awps_call (avs := [_]) true rfl rfl rfl (by decide) en_almagestlaw9_num rfl rfl (num9_ok _) rfl rfl ?_; refine awps_stp0 rfl rfl (by decide) (stp_binI rfl rfl rfl rfl) ?_; refine awps_stp0 rfl rfl (by decide) (stp_move (.inl rfl) rfl) ?_; refine awps_split 79 rfl (fun g79 => ?_) (fun g79 => ?_)
    · try simp only [↓cqA, cqB] at g79
      refine awps_gs rfl rfl rfl rfl (by decide) rfl (by decide) ?_; refine awps_gs rfl rfl rfl rfl (by decide) rfl (by decide) ?_; refine awps_gs rfl rfl rfl rfl (by decide) rfl (by decide) ?_; refine awps_gs rfl rfl rfl rfl (by decide) rfl (by decide) ?_; refine awps_gs rfl rfl rfl rfl (by decide) rfl (by decide) ?_; refine awps_stp0 rfl rfl (by decide) (stp_pick rfl rfl rfl) ?_
      refine awps_nil ?_; refine thenQ_nil ?_; refine awp_condT rfl ?_; refine awp_seq ?_; refine awp_region ?_; refine awps_stp0 rfl rfl (by decide) (stp_move (.inr rfl) rfl) ?_; refine awps_nil ?_; refine thenQ_nil ?_; refine awp_ret ?_; refine thenQ_ret (?_)
      -- leaf 0Fg22T1Fg79T
      refine ret0 (noL hL) (.inl rfl) (resAs_tmp rfl (resAs_nil)) ?_ ?_
      · rfl
      first
      | exact ⟨rfl, rfl⟩
      | (exfalso; omega)
      | exact absurd trivial (by assumption)
      | trace_state
    try simp only [↓cqA, cqB] at g79
    refine awps_g0 rfl rfl rfl (by decide) rfl (by decide) (stp_move (.inl rfl) rfl) ?_; refine awps_g0 rfl rfl rfl (by decide) rfl (by decide) (stp_len_dat rfl sl_S_api_Fact rfl) ?_; refine awps_g0 rfl rfl rfl (by decide) rfl (by decide) (stp_move (.inl rfl) rfl) ?_; refine awps_g0 rfl rfl rfl (by decide) rfl (by decide) (stp_len_dat rfl sl_S_api_Kept rfl) ?_
    refine awps_g0 rfl rfl rfl (by decide) rfl (by decide) (stp_binI rfl rfl rfl rfl) ?_; refine awps_stp0 rfl rfl (by decide) (stp_pick rfl rfl rfl) ?_; refine awps_nil ?_; refine thenQ_nil ?_; refine awp_cond rfl (fun c4 => ?_) (fun c4 => ?_)
    · try simp only [↓cqA, cqB] at c4
      refine awp_seq ?_; refine awp_region ?_; refine awps_stp0 rfl rfl (by decide) (stp_move (.inr rfl) rfl) ?_; refine awps_nil ?_; refine thenQ_nil ?_; refine awp_ret ?_; refine thenQ_ret (?_)
      -- leaf 0Fg22T1Fg79F4T
      refine ret0 (noL hL) (.inl rfl) (resAs_tmp rfl (resAs_nil)) ?_ ?_
      · rfl
      first
      | exact ⟨rfl, rfl⟩
      | (exfalso; omega)
      | exact absurd trivial (by assumption)
      | trace_state
    try simp only [↓cqA, cqB] at c4
    refine awp_skip ?_; refine thenQ_nil ?_; refine awp_seq ?_; refine awp_seq ?_; refine awp_region ?_; refine awps_stp0 rfl rfl (by decide) (stp_move (.inr rfl) rfl) ?_; refine awps_nil ?_; refine thenQ_nil ?_; refine awp_block ?_; refine awp_while ((sortedL a.1).length) (fun _ => True) (fun j => ⟨[(10, .dat false 6 (ftDs (sortedL a.1))), (12, iv ((1 + j : Nat) : Int))], []⟩) (trivial) ?_ (fun j hj hpj => ?_)
    · exact sub_re (SubT.cons (lk_eq rfl (by first | rfl | simp)) (SubT.cons (lk_eq rfl (by first | rfl | exact int_imm (by omega))) (SubT.nil))) (SubO.nil) rfl rfl (noL' (noL hL) _)
    refine awp_seq ?_; refine awp_seq ?_; refine awp_region ?_; refine awps_stp0 rfl rfl (by decide) (stp_move (.inl rfl) rfl) ?_; refine awps_stp0 rfl rfl (by decide) (stp_move (.inl rfl) rfl) ?_; refine awps_stp0 rfl rfl (by decide) (stp_len_dat rfl sl_S_api_Fact rfl) ?_; refine awps_stp0 rfl rfl (by decide) (stp_binI rfl rfl rfl rfl) ?_; refine awps_nil ?_; refine thenQ_nil ?_; refine awp_cond rfl (fun c5 => ?_) (fun c5 => ?_)
    · try simp only [↓cqA, cqB] at c5
      obtain ⟨x, hx⟩ := get_of_lt (l := sortedL a.1) (k := j) (by omega)
      obtain ⟨y, hy⟩ := get_of_lt (l := sortedL a.1) (k := j + 1) (by omega)
      have hx2 : (sortedL a.1)[(((1 + j : Nat) : Int) - 1).toNat]? = some x := by rw [show (((1 + j : Nat) : Int) - 1).toNat = j by omega]; exact hx
      have hy2 : (sortedL a.1)[1 + j]? = some y := by rw [Nat.add_comm]; exact hy
      obtain ⟨ho1, ho2⟩ := srtF_rise hp.1 (hsL ▸ hx) (hsL ▸ hy)
      have wx := hsw x (List.mem_of_getElem? hx)
      have wy := hsw y (List.mem_of_getElem? hy)
      refine awp_skip ?_; refine thenQ_nil ?_; refine awp_seq ?_; refine awp_block ?_; refine awp_seq ?_; refine awp_drawG 14 mixed rfl rfl rfl rfl ?_; refine MGo_c0 rfl (by decide) (.run rfl (stp_move (.inl rfl) rfl)) ?_; refine MGo_c0 rfl (by decide) (.run rfl (stp_move (.inl rfl) rfl)) ?_; refine MGo_c0 rfl (by decide) (.run rfl (stp_sub rfl rfl rfl (by omega))) ?_; refine MGo_c0 rfl (by decide) (.run rfl (stp_indexAddr rfl sl_S_api_Fact rfl rfl (by omega) (ftDs_get hx2))) ?_; refine MGo_c0 rfl (by decide) (.run rfl (stp_load_elpa rfl tf_api_Fact rfl rfl)) ?_
      refine MGo_c0 rfl (by decide) (.run rfl (stp_move (.inl rfl) rfl)) ?_; refine MGo_c0 rfl (by decide) (.run rfl (stp_move (.inl rfl) rfl)) ?_; refine MGo_c0 rfl (by decide) (.run rfl (stp_indexAddr rfl sl_S_api_Fact rfl rfl (by omega) (ftDs_get hy2))) ?_; refine MGo_c0 rfl (by decide) (.run rfl (stp_load_elpa rfl tf_api_Fact rfl rfl)) ?_
      refine MGo_c0 rfl (by decide) (.run rfl (stp_call (avs := [_, _]) true rfl en_facts_Order rfl rfl (factsOrder_ok x y wx wy) (fun _ => rfl) rfl)) ?_; refine MGo_c0 rfl (by decide) (.run rfl (stp_move (.inl rfl) rfl)) ?_; refine MGo_c0 rfl (by decide) (.run rfl (stp_extract rfl rfl rfl)) ?_; refine MGo_c0 rfl (by decide) (.run rfl (stp_extract rfl rfl rfl)) ?_
      refine MGo_c0 rfl (by decide) (.run rfl (stp_move (.inr rfl) rfl)) ?_; refine MGo_nil ⟨rfl, rfl, ?_⟩; refine awps_stp0 rfl rfl (by decide) (stp_move (.inr rfl) rfl) ?_; refine awps_nil ?_; refine thenQ_nil ?_; refine awp_seq ?_; refine awp_region ?_; refine awps_stp0 rfl rfl (by decide) (stp_move (.inl rfl) rfl) ?_
      refine awps_call (avs := [_]) true rfl rfl rfl (by decide) en_almagestlaw9_num rfl rfl (num9_ok _) rfl rfl ?_; refine awps_stp0 rfl rfl (by decide) (stp_binI rfl rfl rfl rfl) ?_; refine awps_stp0 rfl rfl (by decide) (stp_move (.inl rfl) rfl) ?_; refine awps_split 108 rfl (fun g108 => ?_) (fun g108 => ?_)
      · try simp only [↓cqA, cqB] at g108
        refine awps_gs rfl rfl rfl rfl (by decide) rfl (by decide) ?_; refine awps_gs rfl rfl rfl rfl (by decide) rfl (by decide) ?_; refine awps_stp0 rfl rfl (by decide) (stp_pick rfl rfl rfl) ?_; refine awps_nil ?_; refine thenQ_nil ?_; refine awp_condT rfl ?_; refine awp_seq ?_; refine awp_region ?_; refine awps_stp0 rfl rfl (by decide) (stp_move (.inr rfl) rfl) ?_; refine awps_nil ?_; refine thenQ_nil ?_; refine awp_ret ?_; refine inQ_ret (thenQ_ret (thenQ_ret (inQ_ret (thenQ_ret (?_)))))
        -- leaf 0Fg22T1Fg79F4F5Tg108T
        refine ret0 (noL hL) (.inl rfl) (resAs_tmp rfl (resAs_nil)) ?_ ?_
        · rfl
        first
        | exact ⟨rfl, rfl⟩
        | (exfalso; omega)
        | exact absurd trivial (by assumption)
        | trace_state
      try simp only [↓cqA, cqB] at g108
      refine awps_g0 rfl rfl rfl (by decide) rfl (by decide) (stp_move (.inl rfl) rfl) ?_; refine awps_g0 rfl rfl rfl (by decide) rfl (by decide) (stp_binI rfl rfl rfl rfl) ?_; refine awps_stp0 rfl rfl (by decide) (stp_pick rfl rfl rfl) ?_; refine awps_nil ?_; refine thenQ_nil ?_; refine awp_cond rfl (fun c6 => ?_) (fun c6 => ?_)
      · try simp only [↓cqA, cqB] at c6
        refine awp_seq ?_; refine awp_region ?_; refine awps_stp0 rfl rfl (by decide) (stp_move (.inr rfl) rfl) ?_; refine awps_nil ?_; refine thenQ_nil ?_; refine awp_ret ?_; refine inQ_ret (thenQ_ret (thenQ_ret (inQ_ret (thenQ_ret (?_)))))
        -- leaf 0Fg22T1Fg79F4F5Tg108F6T
        refine ret0 (noL hL) (.inl rfl) (resAs_tmp rfl (resAs_nil)) ?_ ?_
        · rfl
        first
        | exact ⟨rfl, rfl⟩
        | (exfalso; omega)
        | exact absurd trivial (by assumption)
        | trace_state
      try simp only [↓cqA, cqB] at c6
      refine awp_skip ?_; refine inQ_nil ?_; refine thenQ_nil ?_; refine awp_region ?_; refine awps_stp0 rfl rfl (by decide) (stp_move (.inl rfl) rfl) ?_; refine awps_stp0 rfl rfl (by decide) (stp_add rfl rfl rfl (by omega)) ?_; refine awps_stp0 rfl rfl (by decide) (stp_move (.inr rfl) rfl) ?_; refine awps_nil ?_; refine thenQ_nil ?_; refine ⟨?_, ?_, ?_⟩
      · skip
        omega
      · skip
        trivial
      exact sub_re (SubT.cons (lk_eq rfl (by first | rfl | simp)) (SubT.cons (lk_eq rfl (by first | rfl | exact int_imm (by omega))) (SubT.nil))) (SubO.nil) rfl rfl (noL' (noL hL) _)
    try simp only [↓cqA, cqB] at c5
    refine awp_exit ?_; refine thenQ_exit (thenQ_exit (inQ_hit ?_)); refine thenQ_nil ?_; refine awp_seq ?_; refine awp_region ?_; refine awps_call (avs := []) true rfl rfl rfl (by decide) en_almagestlaw9_wakes rfl rfl (wakes9_ok) rfl rfl ?_; refine awps_stp0 rfl rfl (by decide) (stp_move (.inr rfl) rfl) ?_; refine awps_nil ?_; refine thenQ_nil ?_; refine awp_ret ?_
    -- leaf 0Fg22T1Fg79F4F5F
    refine ret0 (noL hL) (.inl rfl) (resAs_tmp rfl (resAs_nil)) ?_ ?_
    · rfl
    first
    | exact ⟨rfl, rfl⟩
    | (exfalso; omega)
    | exact absurd trivial (by assumption)
    | trace_state
  try simp only [↓cqA, cqB] at g22
  refine awps_gs rfl rfl rfl rfl (by decide) rfl (by decide) ?_; refine awps_gs rfl rfl rfl rfl (by decide) rfl (by decide) ?_; refine awps_stp0 rfl rfl (by decide) (stp_pick rfl rfl rfl) ?_; refine awps_nil ?_; refine thenQ_nil ?_; refine awp_condF rfl ?_; refine awp_exit ?_; refine thenQ_exit (thenQ_exit (inQ_hit ?_)); refine thenQ_nil ?_; refine awp_seq ?_
  have hsE : sortedE a.1 = 0 := by rw [sortedE, if_pos hp.1]
  have hsL : sortedL a.1 = srtF (a.1.map Kp.f) := by rw [sortedL, if_pos hp.1]
  have hsl : (sortedL a.1).length = a.1.length := by rw [hsL, (srtF_perm _).length_eq, List.length_map]
  have hsd := ftDs_length (sortedL a.1)
  have hsw : ∀ x ∈ sortedL a.1, x.wf := fun x hx => by
    rw [hsL] at hx
    obtain ⟨k, hk, rfl⟩ := List.mem_map.1 ((srtF_perm _).mem_iff.1 hx)
    exact (hp.2.1 k hk).2
  refine awp_region ?_; refine awps_stp0 rfl rfl (by decide) (stp_move (.inl rfl) rfl) ?_; refine awps_call (avs := [_]) true rfl rfl rfl (by decide) en_facts_Sorted rfl rfl (factsSorted_ok a.1 hp.2.1) rfl rfl ?_; refine awps_stp0 rfl rfl (by decide) (stp_move (.inl rfl) rfl) ?_; refine awps_stp0 rfl rfl (by decide) (stp_extract rfl rfl rfl) ?_
  refine awps_stp0 rfl rfl (by decide) (stp_extract rfl rfl rfl) ?_; refine awps_stp0 rfl rfl (by decide) (stp_move (.inr rfl) rfl) ?_; refine awps_stp0 rfl rfl (by decide) (stp_move (.inr rfl) rfl) ?_; refine awps_nil ?_; refine thenQ_nil ?_; refine awp_seq ?_; refine awp_seq ?_; refine awp_sub (sub_untag hQ) ?_; refine awp_region ?_
  refine awps_stp0 rfl rfl (by decide) (stp_move (.inl rfl) rfl) ?_; refine awps_call (avs := [_]) true rfl rfl rfl (by decide) en_almagestlaw9_num rfl rfl (num9_ok _) rfl rfl ?_; refine awps_stp0 rfl rfl (by decide) (stp_binI rfl rfl rfl rfl) ?_; refine awps_stp0 rfl rfl (by decide) (stp_move (.inl rfl) rfl) ?_; refine awps_split 79 rfl (fun g79 => ?_) (fun g79 => ?_)
  · try simp only [↓cqA, cqB] at g79
    refine awps_gs rfl rfl rfl rfl (by decide) rfl (by decide) ?_; refine awps_gs rfl rfl rfl rfl (by decide) rfl (by decide) ?_; refine awps_gs rfl rfl rfl rfl (by decide) rfl (by decide) ?_; refine awps_gs rfl rfl rfl rfl (by decide) rfl (by decide) ?_; refine awps_gs rfl rfl rfl rfl (by decide) rfl (by decide) ?_; refine awps_stp0 rfl rfl (by decide) (stp_pick rfl rfl rfl) ?_
    refine awps_nil ?_; refine thenQ_nil ?_; refine awp_condT rfl ?_; refine awp_seq ?_; refine awp_region ?_; refine awps_stp0 rfl rfl (by decide) (stp_move (.inr rfl) rfl) ?_; refine awps_nil ?_; refine thenQ_nil ?_; refine awp_ret ?_; refine thenQ_ret (?_)
    -- leaf 0Fg22Fg79T
    refine ret0 (noL hL) (.inl rfl) (resAs_tmp rfl (resAs_nil)) ?_ ?_
    · rfl
    first
    | exact ⟨rfl, rfl⟩
    | (exfalso; omega)
    | exact absurd trivial (by assumption)
    | trace_state
  try simp only [↓cqA, cqB] at g79
  refine awps_g0 rfl rfl rfl (by decide) rfl (by decide) (stp_move (.inl rfl) rfl) ?_; refine awps_g0 rfl rfl rfl (by decide) rfl (by decide) (stp_len_dat rfl sl_S_api_Fact rfl) ?_; refine awps_g0 rfl rfl rfl (by decide) rfl (by decide) (stp_move (.inl rfl) rfl) ?_; refine awps_g0 rfl rfl rfl (by decide) rfl (by decide) (stp_len_dat rfl sl_S_api_Kept rfl) ?_
  refine awps_g0 rfl rfl rfl (by decide) rfl (by decide) (stp_binI rfl rfl rfl rfl) ?_; refine awps_stp0 rfl rfl (by decide) (stp_pick rfl rfl rfl) ?_; refine awps_nil ?_; refine thenQ_nil ?_; refine awp_cond rfl (fun c4 => ?_) (fun c4 => ?_)
  · try simp only [↓cqA, cqB] at c4
    refine awp_seq ?_; refine awp_region ?_; refine awps_stp0 rfl rfl (by decide) (stp_move (.inr rfl) rfl) ?_; refine awps_nil ?_; refine thenQ_nil ?_; refine awp_ret ?_; refine thenQ_ret (?_)
    -- leaf 0Fg22Fg79F4T
    refine ret0 (noL hL) (.inl rfl) (resAs_tmp rfl (resAs_nil)) ?_ ?_
    · rfl
    first
    | exact ⟨rfl, rfl⟩
    | (exfalso; omega)
    | exact absurd trivial (by assumption)
    | trace_state
  try simp only [↓cqA, cqB] at c4
  refine awp_skip ?_; refine thenQ_nil ?_; refine awp_seq ?_; refine awp_seq ?_; refine awp_region ?_; refine awps_stp0 rfl rfl (by decide) (stp_move (.inr rfl) rfl) ?_; refine awps_nil ?_; refine thenQ_nil ?_; refine awp_block ?_; refine awp_while ((sortedL a.1).length) (fun _ => True) (fun j => ⟨[(10, .dat false 6 (ftDs (sortedL a.1))), (12, iv ((1 + j : Nat) : Int))], []⟩) (trivial) ?_ (fun j hj hpj => ?_)
  · exact sub_re (SubT.cons (lk_eq rfl (by first | rfl | simp)) (SubT.cons (lk_eq rfl (by first | rfl | exact int_imm (by omega))) (SubT.nil))) (SubO.nil) rfl rfl (noL' (noL hL) _)
  refine awp_seq ?_; refine awp_seq ?_; refine awp_region ?_; refine awps_stp0 rfl rfl (by decide) (stp_move (.inl rfl) rfl) ?_; refine awps_stp0 rfl rfl (by decide) (stp_move (.inl rfl) rfl) ?_; refine awps_stp0 rfl rfl (by decide) (stp_len_dat rfl sl_S_api_Fact rfl) ?_; refine awps_stp0 rfl rfl (by decide) (stp_binI rfl rfl rfl rfl) ?_; refine awps_nil ?_; refine thenQ_nil ?_; refine awp_cond rfl (fun c5 => ?_) (fun c5 => ?_)
  · try simp only [↓cqA, cqB] at c5
    obtain ⟨x, hx⟩ := get_of_lt (l := sortedL a.1) (k := j) (by omega)
    obtain ⟨y, hy⟩ := get_of_lt (l := sortedL a.1) (k := j + 1) (by omega)
    have hx2 : (sortedL a.1)[(((1 + j : Nat) : Int) - 1).toNat]? = some x := by rw [show (((1 + j : Nat) : Int) - 1).toNat = j by omega]; exact hx
    have hy2 : (sortedL a.1)[1 + j]? = some y := by rw [Nat.add_comm]; exact hy
    obtain ⟨ho1, ho2⟩ := srtF_rise hp.1 (hsL ▸ hx) (hsL ▸ hy)
    have wx := hsw x (List.mem_of_getElem? hx)
    have wy := hsw y (List.mem_of_getElem? hy)
    refine awp_skip ?_; refine thenQ_nil ?_; refine awp_seq ?_; refine awp_block ?_; refine awp_seq ?_; refine awp_drawG 14 mixed rfl rfl rfl rfl ?_; refine MGo_c0 rfl (by decide) (.run rfl (stp_move (.inl rfl) rfl)) ?_; refine MGo_c0 rfl (by decide) (.run rfl (stp_move (.inl rfl) rfl)) ?_; refine MGo_c0 rfl (by decide) (.run rfl (stp_sub rfl rfl rfl (by omega))) ?_; refine MGo_c0 rfl (by decide) (.run rfl (stp_indexAddr rfl sl_S_api_Fact rfl rfl (by omega) (ftDs_get hx2))) ?_; refine MGo_c0 rfl (by decide) (.run rfl (stp_load_elpa rfl tf_api_Fact rfl rfl)) ?_
    refine MGo_c0 rfl (by decide) (.run rfl (stp_move (.inl rfl) rfl)) ?_; refine MGo_c0 rfl (by decide) (.run rfl (stp_move (.inl rfl) rfl)) ?_; refine MGo_c0 rfl (by decide) (.run rfl (stp_indexAddr rfl sl_S_api_Fact rfl rfl (by omega) (ftDs_get hy2))) ?_; refine MGo_c0 rfl (by decide) (.run rfl (stp_load_elpa rfl tf_api_Fact rfl rfl)) ?_
    refine MGo_c0 rfl (by decide) (.run rfl (stp_call (avs := [_, _]) true rfl en_facts_Order rfl rfl (factsOrder_ok x y wx wy) (fun _ => rfl) rfl)) ?_; refine MGo_c0 rfl (by decide) (.run rfl (stp_move (.inl rfl) rfl)) ?_; refine MGo_c0 rfl (by decide) (.run rfl (stp_extract rfl rfl rfl)) ?_; refine MGo_c0 rfl (by decide) (.run rfl (stp_extract rfl rfl rfl)) ?_
    refine MGo_c0 rfl (by decide) (.run rfl (stp_move (.inr rfl) rfl)) ?_; refine MGo_nil ⟨rfl, rfl, ?_⟩; refine awps_stp0 rfl rfl (by decide) (stp_move (.inr rfl) rfl) ?_; refine awps_nil ?_; refine thenQ_nil ?_; refine awp_seq ?_; refine awp_region ?_; refine awps_stp0 rfl rfl (by decide) (stp_move (.inl rfl) rfl) ?_
    refine awps_call (avs := [_]) true rfl rfl rfl (by decide) en_almagestlaw9_num rfl rfl (num9_ok _) rfl rfl ?_; refine awps_stp0 rfl rfl (by decide) (stp_binI rfl rfl rfl rfl) ?_; refine awps_stp0 rfl rfl (by decide) (stp_move (.inl rfl) rfl) ?_; refine awps_split 108 rfl (fun g108 => ?_) (fun g108 => ?_)
    · try simp only [↓cqA, cqB] at g108
      refine awps_gs rfl rfl rfl rfl (by decide) rfl (by decide) ?_; refine awps_gs rfl rfl rfl rfl (by decide) rfl (by decide) ?_; refine awps_stp0 rfl rfl (by decide) (stp_pick rfl rfl rfl) ?_; refine awps_nil ?_; refine thenQ_nil ?_; refine awp_condT rfl ?_; refine awp_seq ?_; refine awp_region ?_; refine awps_stp0 rfl rfl (by decide) (stp_move (.inr rfl) rfl) ?_; refine awps_nil ?_; refine thenQ_nil ?_; refine awp_ret ?_; refine inQ_ret (thenQ_ret (thenQ_ret (inQ_ret (thenQ_ret (?_)))))
      -- leaf 0Fg22Fg79F4F5Tg108T
      refine ret0 (noL hL) (.inl rfl) (resAs_tmp rfl (resAs_nil)) ?_ ?_
      · rfl
      first
      | exact ⟨rfl, rfl⟩
      | (exfalso; omega)
      | exact absurd trivial (by assumption)
      | trace_state
    try simp only [↓cqA, cqB] at g108
    refine awps_g0 rfl rfl rfl (by decide) rfl (by decide) (stp_move (.inl rfl) rfl) ?_; refine awps_g0 rfl rfl rfl (by decide) rfl (by decide) (stp_binI rfl rfl rfl rfl) ?_; refine awps_stp0 rfl rfl (by decide) (stp_pick rfl rfl rfl) ?_; refine awps_nil ?_; refine thenQ_nil ?_; refine awp_cond rfl (fun c6 => ?_) (fun c6 => ?_)
    · try simp only [↓cqA, cqB] at c6
      refine awp_seq ?_; refine awp_region ?_; refine awps_stp0 rfl rfl (by decide) (stp_move (.inr rfl) rfl) ?_; refine awps_nil ?_; refine thenQ_nil ?_; refine awp_ret ?_; refine inQ_ret (thenQ_ret (thenQ_ret (inQ_ret (thenQ_ret (?_)))))
      -- leaf 0Fg22Fg79F4F5Tg108F6T
      refine ret0 (noL hL) (.inl rfl) (resAs_tmp rfl (resAs_nil)) ?_ ?_
      · rfl
      first
      | exact ⟨rfl, rfl⟩
      | (exfalso; omega)
      | exact absurd trivial (by assumption)
      | trace_state
    try simp only [↓cqA, cqB] at c6
    refine awp_skip ?_; refine inQ_nil ?_; refine thenQ_nil ?_; refine awp_region ?_; refine awps_stp0 rfl rfl (by decide) (stp_move (.inl rfl) rfl) ?_; refine awps_stp0 rfl rfl (by decide) (stp_add rfl rfl rfl (by omega)) ?_; refine awps_stp0 rfl rfl (by decide) (stp_move (.inr rfl) rfl) ?_; refine awps_nil ?_; refine thenQ_nil ?_; refine ⟨?_, ?_, ?_⟩
    · skip
      omega
    · skip
      trivial
    exact sub_re (SubT.cons (lk_eq rfl (by first | rfl | simp)) (SubT.cons (lk_eq rfl (by first | rfl | exact int_imm (by omega))) (SubT.nil))) (SubO.nil) rfl rfl (noL' (noL hL) _)
  try simp only [↓cqA, cqB] at c5
  refine awp_exit ?_; refine thenQ_exit (thenQ_exit (inQ_hit ?_)); refine thenQ_nil ?_; refine awp_seq ?_; refine awp_region ?_; refine awps_call (avs := []) true rfl rfl rfl (by decide) en_almagestlaw9_wakes rfl rfl (wakes9_ok) rfl rfl ?_; refine awps_stp0 rfl rfl (by decide) (stp_move (.inr rfl) rfl) ?_; refine awps_nil ?_; refine thenQ_nil ?_; refine awp_ret ?_
  -- leaf 0Fg22Fg79F4F5F
  refine ret0 (noL hL) (.inl rfl) (resAs_tmp rfl (resAs_nil)) ?_ ?_
  · rfl
  first
  | exact ⟨rfl, rfl⟩
  | (exfalso; omega)
  | exact absurd trivial (by assumption)
  | trace_state
end Go.Proofs.Ytdecgkhdbfgldaa

set_option linter.unusedVariables false
set_option maxRecDepth 8000
namespace Go.Proofs.Ytdecgkhdbfgldaa
open Go Go.RowKit
theorem rdr_sp (w : World) (n : Nat) : Rdr Try.prog w n 51 2 (fun p : Int × Int => [.imm (.int .i64 p.1), .imm (.int .i64 p.2)]) (fun p => i64 p.1 ∧ i64 p.2) := by
  refine Rdr.map (fun x : Int × Int × Unit => (x.1, x.2.1)) (Rdr.struct st_api_Span (fun _ => rfl) fun m hm => RdrF.cons (Rdr.int ul_int) (RdrF.cons (Rdr.int ul_int) RdrF.nil)) (fun _ => rfl) ?_ ?_
  · rintro ⟨a, b, _⟩ _; rfl
  · rintro ⟨a, b, _⟩ ⟨h1, h2, _⟩; exact ⟨h1, h2⟩
theorem rdr_ft (w : World) (n : Nat) : Rdr Try.prog w n 53 6 ftD Ft.wf := by
  refine Rdr.map (fun x : Tm × (Int × Int) × Unit => ⟨x.1, x.2.1.1, x.2.1.2⟩) (Rdr.struct st_api_Fact (fun _ => rfl) fun m hm => RdrF.cons (rdr_tm w m) (RdrF.cons (rdr_sp w m) RdrF.nil)) (fun _ => rfl) ?_ ?_
  · rintro ⟨a, b, _⟩ _; rfl
  · rintro ⟨a, b, _⟩ ⟨h1, h2, _⟩; exact ⟨h1, h2⟩
theorem rdr_fts (w : World) (n : Nat) : Rdr Try.prog w n 43 1 (fun l : List Ft => [.sl 6 (ftDs l)]) (fun l => lenOk l ∧ ∀ g ∈ l, g.wf) := by
  refine Rdr.map id (Rdr.slice sl_S_api_Fact (by decide) fun k _ => rdr_ft w k) (fun _ => rfl) (fun _ _ => rfl) ?_
  rintro l ⟨h1, h2⟩
  rw [by_api_Fact] at h1
  exact ⟨lenOk_of h1 (by decide), h2⟩
theorem rdr_kp (w : World) (n : Nat) : Rdr Try.prog w n 114 7 kpD Kp.wf := by
  refine Rdr.map (fun x : Int × Ft × Unit => ⟨x.1, x.2.1⟩) (Rdr.struct st_api_Kept (fun _ => rfl) fun m hm => RdrF.cons (Rdr.int ul_int) (RdrF.cons (rdr_ft w m) RdrF.nil)) (fun _ => rfl) ?_ ?_
  · rintro ⟨a, b, _⟩ _; rfl
  · rintro ⟨a, b, _⟩ ⟨h1, h2, _⟩; exact ⟨h1, h2⟩
theorem rdr_kps (w : World) (n : Nat) : Rdr Try.prog w n 42 1 (fun l : List Kp => [.sl 7 (kpDs l)]) (fun l => lenOk l ∧ ∀ g ∈ l, g.wf) := by
  refine Rdr.map id (Rdr.slice sl_S_api_Kept (by decide) fun k _ => rdr_kp w k) (fun _ => rfl) (fun _ _ => rfl) ?_
  rintro l ⟨h1, h2⟩
  rw [by_api_Kept] at h1
  exact ⟨lenOk_of h1 (by decide), h2⟩
theorem rdr_ints (w : World) (n : Nat) : Rdr Try.prog w n 44 1 (fun l : List Int => [.sl 1 (inDs l)]) (fun l => lenOk l ∧ ∀ x ∈ l, i64 x) := by
  refine Rdr.map id (Rdr.slice sl_S_int (by decide) fun k _ => Rdr.int ul_int) (fun _ => rfl) (fun _ _ => rfl) ?_
  rintro l ⟨h1, h2⟩
  rw [by_int] at h1
  exact ⟨lenOk_of h1 (by decide), h2⟩
theorem rdr_a9 (w : World) (n : Nat) : Rdr Try.prog w n 46 3 a9D Ask9.wf := by
  refine Rdr.map (fun x : List Kp × List Ft × List Int × Unit => ⟨x.1, x.2.1, x.2.2.1⟩) (Rdr.struct st_almagestlaw9_Ask (fun _ => rfl) fun m hm => RdrF.cons (rdr_kps w m) (RdrF.cons (rdr_fts w m) (RdrF.cons (rdr_ints w m) RdrF.nil))) (fun _ => rfl) ?_ ?_
  · rintro ⟨a, b, c, _⟩ _; rfl
  · rintro ⟨a, b, c, _⟩ ⟨h1, h2, h3, _⟩; exact ⟨h1, h2, h3⟩
end Go.Proofs.Ytdecgkhdbfgldaa
