/- Part 12 of the proof: Je, Hg. -/
import Derived.Test.YtdecgkhdbfgldaaGreatE11
set_option linter.unusedVariables false
set_option linter.unusedSimpArgs false
set_option maxRecDepth 8000
namespace Go.Proofs.YtdecgkhdbfgldaaGreat
open Go
theorem sameId_eqF {a b : Ft} (ha : factB a = true) (hb : factB b = true) : sameId a b = eqF a b := by
  rw [Bool.eq_iff_iff, ← cmpF_zero (fact_parts ha).2.2, cmpF_eq (fact_parts ha).2.2]
  exact ⟨sameId_eq ha hb, fun e => by rw [e, sameId_self]⟩
theorem step_fact {l : List Kp} {j : Nat} {x : Kp} (h : stepL l j = true) (hx : l[j]? = some x) : factB x.f = true := by
  rw [stepL_get hx] at h
  simp only [Bool.and_eq_true] at h
  exact h.1.1.1
theorem rFacts_ok (l : List Kp) (hll : l.length ≤ 1000000000) (hw : ∀ k ∈ l, k.wf) : PF 45 [.dat false 7 (kpDs l)] (bv (listB l)) := by
  have hlen := kpDs_length l
  have hbad : ∀ j, j < l.length → stepL l j = false → listB l = false := fun j hj h => by
    have : (List.range l.length).all (stepL l) = false := List.all_eq_false.2 ⟨j, by simpa using hj, by simp [h]⟩
    rw [listB, this]; simp
  refine AC_intro Tryz.func45 rfl Tryz.ntmps45 (Nat.le_of_ble_eq_true rfl) fun c hL hQ hDD => ?_; refine awp_seq ?_; refine awp_region ?_; refine awps_stp0 rfl rfl (by decide) (stp_move (.inr rfl) rfl) ?_; refine awps_nil ?_; refine thenQ_nil ?_; refine awp_seq ?_; refine awp_seq ?_; refine awp_region ?_; refine awps_stp0 rfl rfl (by decide) (stp_move (.inr rfl) rfl) ?_; refine awps_nil ?_
  refine thenQ_nil ?_; refine awp_block ?_; refine awp_while (301) (fun k => k ≤ l.length ∧ k ≤ 301 ∧ ∀ j, j < k → stepL l j = true) (fun k => ⟨[(0, .dat false 7 (kpDs l)), (3, iv (k : Int))], []⟩) (⟨by omega, by omega, fun j hj => absurd hj (by omega)⟩) ?_ (fun k hk hp => ?_)
  · exact sub_re (SubT.cons (lk_eq rfl (by first | rfl | simp)) (SubT.cons (lk_eq rfl (by first | rfl | simp)) (SubT.nil))) (SubO.nil) rfl rfl (noL' (noL hL) _)
  refine awp_seq ?_; refine awp_seq ?_; refine awp_region ?_; refine awps_stp0 rfl rfl (by decide) (stp_move (.inl rfl) rfl) ?_; refine awps_stp0 rfl rfl (by decide) (stp_move (.inl rfl) rfl) ?_; refine awps_stp0 rfl rfl (by decide) (stp_len_dat rfl sl_S_api_Kept rfl) ?_; refine awps_stp0 rfl rfl (by decide) (stp_binI rfl rfl rfl rfl) ?_; refine awps_stp0 rfl rfl (by decide) (stp_move (.inl rfl) rfl) ?_; refine awps_split 9 rfl (fun g9 => ?_) (fun g9 => ?_)
  · try simp only [↓cqA, cqB] at g9
    refine awps_g0 rfl rfl rfl (by decide) rfl (by decide) (stp_move (.inl rfl) rfl) ?_; refine awps_g0 rfl rfl rfl (by decide) rfl (by decide) (stp_binI rfl rfl rfl rfl) ?_; refine awps_stp0 rfl rfl (by decide) (stp_pick rfl rfl rfl) ?_; refine awps_nil ?_; refine thenQ_nil ?_; refine awp_cond rfl (fun c0 => ?_) (fun c0 => ?_)
    · try simp only [↓cqA, cqB] at c0
      obtain ⟨u, hu⟩ := get_of_lt (l := l) (k := k) (by omega)
      have huw := hw u (List.mem_of_getElem? hu)
      have huf := huw.2
      obtain ⟨y, hy⟩ := get_of_lt (l := l) (k := k - 1) (by omega)
      have hy2 : l[((k : Int) - 1).toNat]? = some y := by rw [show ((k : Int) - 1).toNat = k - 1 by omega]; exact hy
      refine awp_skip ?_; refine thenQ_nil ?_; refine awp_seq ?_; refine awp_block ?_; refine awp_seq ?_; refine awp_seq ?_
      rcases Bool.eq_false_or_eq_true (factB u.f) with l20 | l20
      · have m20 := l20
        try simp only [↓cqA, cqB] at m20
        rcases Bool.eq_false_or_eq_true (decide (u.seq < 0)) with l28 | l28
        · have m28 := l28
          try simp only [↓cqA, cqB] at m28
          refine awp_drawG 30 mixed rfl rfl rfl rfl ?_; refine MGo_c0 rfl (by decide) (.run rfl (stp_move (.inl rfl) rfl)) ?_; refine MGo_c0 rfl (by decide) (.run rfl (stp_move (.inl rfl) rfl)) ?_; refine MGo_c0 rfl (by decide) (.run rfl (stp_indexAddr rfl sl_S_api_Kept rfl rfl (by omega) (kpDs_get hu))) ?_; refine MGo_c0 rfl (by decide) (.run rfl (stp_fieldAddr_elp rfl fo_api_Kept_1 rfl)) ?_; refine MGo_c0 rfl (by decide) (.run rfl (stp_load_elpa rfl tf_api_Fact rfl rfl)) ?_
          refine MGo_c0 rfl (by decide) (.run rfl (stp_call (avs := [_]) true rfl en_almagestref7_Fact rfl rfl (by have hh := rFact_ok u.f huf; rw [l20] at hh; exact hh) (fun _ => rfl) rfl)) ?_; refine MGo_c0 rfl (by decide) (.run rfl (stp_not rfl rfl)) ?_; refine MGo_c0 rfl (by decide) (.run rfl (stp_move (.inl rfl) rfl)) ?_; refine MGo_c0 rfl (by decide) (.want rfl rfl rfl (by decide) (stp_move (.inl rfl) rfl)) ?_; refine MGo_c0 rfl (by decide) (.want rfl rfl rfl (by decide) (stp_move (.inl rfl) rfl)) ?_
          refine MGo_c0 rfl (by decide) (.want rfl rfl rfl (by decide) (stp_indexAddr rfl sl_S_api_Kept rfl rfl (by omega) (kpDs_get hu))) ?_; refine MGo_c0 rfl (by decide) (.want rfl rfl rfl (by decide) (stp_fieldAddr_elp rfl fo_api_Kept_0 rfl)) ?_; refine MGo_c0 rfl (by decide) (.want rfl rfl rfl (by decide) (stp_load_elp1 rfl tf_int rfl)) ?_
          refine MGo_c0 rfl (by decide) (.want rfl rfl rfl (by decide) (stp_binI (r := .bool true) rfl rfl rfl (congrArg (fun b => some (Value.bool b)) l28))) ?_; refine MGo_c0 rfl (by decide) (.run rfl (stp_pick rfl rfl rfl)) ?_; refine MGo_c0 rfl (by decide) (.run rfl (stp_move (.inl rfl) rfl)) ?_; refine MGo_c0 rfl (by decide) (.skip rfl rfl rfl (by decide) (by decide)) ?_
          refine MGo_c0 rfl (by decide) (.skip rfl rfl rfl (by decide) (by decide)) ?_; refine MGo_c0 rfl (by decide) (.skip rfl rfl rfl (by decide) (by decide)) ?_; refine MGo_c0 rfl (by decide) (.skipu rfl rfl rfl (by decide)) ?_; refine MGo_c0 rfl (by decide) (.skipu rfl rfl rfl (by decide)) ?_; refine MGo_c0 rfl (by decide) (.skipu rfl rfl rfl (by decide)) ?_
          refine MGo_c0 rfl (by decide) (.skipu rfl rfl rfl (by decide)) ?_; refine MGo_c0 rfl (by decide) (.skipu rfl rfl rfl (by decide)) ?_; refine MGo_c0 rfl (by decide) (.skipu rfl rfl rfl (by decide)) ?_; refine MGo_c0 rfl (by decide) (.skipu rfl rfl rfl (by decide)) ?_; refine MGo_c0 rfl (by decide) (.skipu rfl rfl rfl (by decide)) ?_
          refine MGo_c0 rfl (by decide) (.skipu rfl rfl rfl (by decide)) ?_; refine MGo_c0 rfl (by decide) (.skipu rfl rfl rfl (by decide)) ?_; refine MGo_c0 rfl (by decide) (.skipu rfl rfl rfl (by decide)) ?_; refine MGo_nil ⟨rfl, rfl, ?_⟩; refine awps_gu rfl rfl rfl (by decide) rfl (by decide) ?_; refine awps_gs rfl rfl rfl rfl (by decide) rfl (by decide) ?_
          refine awps_stp0 rfl rfl (by decide) (stp_pick rfl rfl rfl) ?_; refine awps_nil ?_; refine thenQ_nil ?_; refine awp_condT rfl ?_; refine awp_seq ?_; refine awp_region ?_; refine awps_stp0 rfl rfl (by decide) (stp_move (.inr rfl) rfl) ?_; refine awps_nil ?_; refine thenQ_nil ?_; refine awp_ret ?_; refine thenQ_ret (inQ_ret (thenQ_ret (thenQ_ret (inQ_ret (thenQ_ret (?_))))))
          -- leaf g9T0Tl20Tl28T
          refine ret0 (noL hL) (.inl rfl) (resAs_tmp rfl (resAs_nil)) ?_ ?_
          · rfl
          refine ⟨bool_w ?_, rfl⟩
          first
            | (symm; exact hbad k (by omega) (by
                rw [stepL_get hu, hy]
                first
                  | (rw [l20]; rfl)
                  | (simp; omega)
                  | (have h5 : ((l.take k).any fun z => sameId z.f u.f) = true := List.any_eq_true.2 ⟨v, List.mem_of_getElem? (i := i) (by rw [List.getElem?_take, if_pos (by omega)]; exact hv), by rw [sameId_eqF hvf l20]; exact c3⟩
                     rw [h5]; simp)))
            | (rw [listB, List.all_eq_true.2 (fun j hj => by
                 have hj := List.mem_range.1 hj
                 exact hp.2.2 j (by omega))]; simp; omega)
            | (rw [listB, decide_eq_false (show ¬ l.length ≤ 300 by omega)]; simp; omega)
            | trace_state
        have m28 := l28
        try simp only [↓cqA, cqB] at m28
        rcases Bool.eq_false_or_eq_true (decide ((k : Int) > 0)) with l32 | l32
        · have m32 := l32
          try simp only [↓cqA, cqB] at m32
          rcases Bool.eq_false_or_eq_true (decide (y.seq ≥ u.seq)) with l45 | l45
          · have m45 := l45
            try simp only [↓cqA, cqB] at m45
            refine awp_drawG 30 mixed rfl rfl rfl rfl ?_; refine MGo_c0 rfl (by decide) (.run rfl (stp_move (.inl rfl) rfl)) ?_; refine MGo_c0 rfl (by decide) (.run rfl (stp_move (.inl rfl) rfl)) ?_; refine MGo_c0 rfl (by decide) (.run rfl (stp_indexAddr rfl sl_S_api_Kept rfl rfl (by omega) (kpDs_get hu))) ?_; refine MGo_c0 rfl (by decide) (.run rfl (stp_fieldAddr_elp rfl fo_api_Kept_1 rfl)) ?_; refine MGo_c0 rfl (by decide) (.run rfl (stp_load_elpa rfl tf_api_Fact rfl rfl)) ?_
            refine MGo_c0 rfl (by decide) (.run rfl (stp_call (avs := [_]) true rfl en_almagestref7_Fact rfl rfl (by have hh := rFact_ok u.f huf; rw [l20] at hh; exact hh) (fun _ => rfl) rfl)) ?_; refine MGo_c0 rfl (by decide) (.run rfl (stp_not rfl rfl)) ?_; refine MGo_c0 rfl (by decide) (.run rfl (stp_move (.inl rfl) rfl)) ?_; refine MGo_c0 rfl (by decide) (.want rfl rfl rfl (by decide) (stp_move (.inl rfl) rfl)) ?_; refine MGo_c0 rfl (by decide) (.want rfl rfl rfl (by decide) (stp_move (.inl rfl) rfl)) ?_
            refine MGo_c0 rfl (by decide) (.want rfl rfl rfl (by decide) (stp_indexAddr rfl sl_S_api_Kept rfl rfl (by omega) (kpDs_get hu))) ?_; refine MGo_c0 rfl (by decide) (.want rfl rfl rfl (by decide) (stp_fieldAddr_elp rfl fo_api_Kept_0 rfl)) ?_; refine MGo_c0 rfl (by decide) (.want rfl rfl rfl (by decide) (stp_load_elp1 rfl tf_int rfl)) ?_
            refine MGo_c0 rfl (by decide) (.want rfl rfl rfl (by decide) (stp_binI (r := .bool false) rfl rfl rfl (congrArg (fun b => some (Value.bool b)) l28))) ?_; refine MGo_c0 rfl (by decide) (.run rfl (stp_pick rfl rfl rfl)) ?_; refine MGo_c0 rfl (by decide) (.run rfl (stp_move (.inl rfl) rfl)) ?_
            refine MGo_c0 rfl (by decide) (.want rfl rfl rfl (by decide) (stp_move (.inl rfl) rfl)) ?_; refine MGo_c0 rfl (by decide) (.want rfl rfl rfl (by decide) (stp_binI (r := .bool true) rfl rfl rfl (congrArg (fun b => some (Value.bool b)) l32))) ?_; refine MGo_c0 rfl (by decide) (.want rfl rfl rfl (by decide) (stp_move (.inl rfl) rfl)) ?_
            refine MGo_c0 rfl (by decide) (.want rfl rfl rfl (by decide) (stp_move (.inl rfl) rfl)) ?_; refine MGo_c0 rfl (by decide) (.want rfl rfl rfl (by decide) (stp_move (.inl rfl) rfl)) ?_; refine MGo_c0 rfl (by decide) (.want rfl rfl rfl (by decide) (stp_sub rfl rfl rfl (by omega))) ?_; refine MGo_c0 rfl (by decide) (.want rfl rfl rfl (by decide) (stp_indexAddr rfl sl_S_api_Kept rfl rfl (by omega) (kpDs_get hy2))) ?_; refine MGo_c0 rfl (by decide) (.want rfl rfl rfl (by decide) (stp_fieldAddr_elp rfl fo_api_Kept_0 rfl)) ?_
            refine MGo_c0 rfl (by decide) (.want rfl rfl rfl (by decide) (stp_load_elp1 rfl tf_int rfl)) ?_; refine MGo_c0 rfl (by decide) (.want rfl rfl rfl (by decide) (stp_move (.inl rfl) rfl)) ?_; refine MGo_c0 rfl (by decide) (.want rfl rfl rfl (by decide) (stp_move (.inl rfl) rfl)) ?_; refine MGo_c0 rfl (by decide) (.want rfl rfl rfl (by decide) (stp_indexAddr rfl sl_S_api_Kept rfl rfl (by omega) (kpDs_get hu))) ?_; refine MGo_c0 rfl (by decide) (.want rfl rfl rfl (by decide) (stp_fieldAddr_elp rfl fo_api_Kept_0 rfl)) ?_
            refine MGo_c0 rfl (by decide) (.want rfl rfl rfl (by decide) (stp_load_elp1 rfl tf_int rfl)) ?_; refine MGo_nil ⟨rfl, rfl, ?_⟩; refine awps_g0 rfl rfl rfl (by decide) rfl (by decide) (stp_binI (r := .bool true) rfl rfl rfl (congrArg (fun b => some (Value.bool b)) l45)) ?_; refine awps_g0 rfl rfl rfl (by decide) rfl (by decide) (stp_pick rfl rfl rfl) ?_; refine awps_stp0 rfl rfl (by decide) (stp_pick rfl rfl rfl) ?_; refine awps_nil ?_; refine thenQ_nil ?_
            refine awp_condT rfl ?_; refine awp_seq ?_; refine awp_region ?_; refine awps_stp0 rfl rfl (by decide) (stp_move (.inr rfl) rfl) ?_; refine awps_nil ?_; refine thenQ_nil ?_; refine awp_ret ?_; refine thenQ_ret (inQ_ret (thenQ_ret (thenQ_ret (inQ_ret (thenQ_ret (?_))))))
            -- leaf g9T0Tl20Tl28Fl32Tl45T
            refine ret0 (noL hL) (.inl rfl) (resAs_tmp rfl (resAs_nil)) ?_ ?_
            · rfl
            refine ⟨bool_w ?_, rfl⟩
            first
              | (symm; exact hbad k (by omega) (by
                  rw [stepL_get hu, hy]
                  first
                    | (rw [l20]; rfl)
                    | (simp; omega)
                    | (have h5 : ((l.take k).any fun z => sameId z.f u.f) = true := List.any_eq_true.2 ⟨v, List.mem_of_getElem? (i := i) (by rw [List.getElem?_take, if_pos (by omega)]; exact hv), by rw [sameId_eqF hvf l20]; exact c3⟩
                       rw [h5]; simp)))
              | (rw [listB, List.all_eq_true.2 (fun j hj => by
                   have hj := List.mem_range.1 hj
                   exact hp.2.2 j (by omega))]; simp; omega)
              | (rw [listB, decide_eq_false (show ¬ l.length ≤ 300 by omega)]; simp; omega)
              | trace_state
          have m45 := l45
          try simp only [↓cqA, cqB] at m45
          refine awp_drawG 30 mixed rfl rfl rfl rfl ?_; refine MGo_c0 rfl (by decide) (.run rfl (stp_move (.inl rfl) rfl)) ?_; refine MGo_c0 rfl (by decide) (.run rfl (stp_move (.inl rfl) rfl)) ?_; refine MGo_c0 rfl (by decide) (.run rfl (stp_indexAddr rfl sl_S_api_Kept rfl rfl (by omega) (kpDs_get hu))) ?_; refine MGo_c0 rfl (by decide) (.run rfl (stp_fieldAddr_elp rfl fo_api_Kept_1 rfl)) ?_; refine MGo_c0 rfl (by decide) (.run rfl (stp_load_elpa rfl tf_api_Fact rfl rfl)) ?_
          refine MGo_c0 rfl (by decide) (.run rfl (stp_call (avs := [_]) true rfl en_almagestref7_Fact rfl rfl (by have hh := rFact_ok u.f huf; rw [l20] at hh; exact hh) (fun _ => rfl) rfl)) ?_; refine MGo_c0 rfl (by decide) (.run rfl (stp_not rfl rfl)) ?_; refine MGo_c0 rfl (by decide) (.run rfl (stp_move (.inl rfl) rfl)) ?_; refine MGo_c0 rfl (by decide) (.want rfl rfl rfl (by decide) (stp_move (.inl rfl) rfl)) ?_; refine MGo_c0 rfl (by decide) (.want rfl rfl rfl (by decide) (stp_move (.inl rfl) rfl)) ?_
          refine MGo_c0 rfl (by decide) (.want rfl rfl rfl (by decide) (stp_indexAddr rfl sl_S_api_Kept rfl rfl (by omega) (kpDs_get hu))) ?_; refine MGo_c0 rfl (by decide) (.want rfl rfl rfl (by decide) (stp_fieldAddr_elp rfl fo_api_Kept_0 rfl)) ?_; refine MGo_c0 rfl (by decide) (.want rfl rfl rfl (by decide) (stp_load_elp1 rfl tf_int rfl)) ?_
          refine MGo_c0 rfl (by decide) (.want rfl rfl rfl (by decide) (stp_binI (r := .bool false) rfl rfl rfl (congrArg (fun b => some (Value.bool b)) l28))) ?_; refine MGo_c0 rfl (by decide) (.run rfl (stp_pick rfl rfl rfl)) ?_; refine MGo_c0 rfl (by decide) (.run rfl (stp_move (.inl rfl) rfl)) ?_
          refine MGo_c0 rfl (by decide) (.want rfl rfl rfl (by decide) (stp_move (.inl rfl) rfl)) ?_; refine MGo_c0 rfl (by decide) (.want rfl rfl rfl (by decide) (stp_binI (r := .bool true) rfl rfl rfl (congrArg (fun b => some (Value.bool b)) l32))) ?_; refine MGo_c0 rfl (by decide) (.want rfl rfl rfl (by decide) (stp_move (.inl rfl) rfl)) ?_
          refine MGo_c0 rfl (by decide) (.want rfl rfl rfl (by decide) (stp_move (.inl rfl) rfl)) ?_; refine MGo_c0 rfl (by decide) (.want rfl rfl rfl (by decide) (stp_move (.inl rfl) rfl)) ?_; refine MGo_c0 rfl (by decide) (.want rfl rfl rfl (by decide) (stp_sub rfl rfl rfl (by omega))) ?_; refine MGo_c0 rfl (by decide) (.want rfl rfl rfl (by decide) (stp_indexAddr rfl sl_S_api_Kept rfl rfl (by omega) (kpDs_get hy2))) ?_; refine MGo_c0 rfl (by decide) (.want rfl rfl rfl (by decide) (stp_fieldAddr_elp rfl fo_api_Kept_0 rfl)) ?_
          refine MGo_c0 rfl (by decide) (.want rfl rfl rfl (by decide) (stp_load_elp1 rfl tf_int rfl)) ?_; refine MGo_c0 rfl (by decide) (.want rfl rfl rfl (by decide) (stp_move (.inl rfl) rfl)) ?_; refine MGo_c0 rfl (by decide) (.want rfl rfl rfl (by decide) (stp_move (.inl rfl) rfl)) ?_; refine MGo_c0 rfl (by decide) (.want rfl rfl rfl (by decide) (stp_indexAddr rfl sl_S_api_Kept rfl rfl (by omega) (kpDs_get hu))) ?_; refine MGo_c0 rfl (by decide) (.want rfl rfl rfl (by decide) (stp_fieldAddr_elp rfl fo_api_Kept_0 rfl)) ?_
          refine MGo_c0 rfl (by decide) (.want rfl rfl rfl (by decide) (stp_load_elp1 rfl tf_int rfl)) ?_; refine MGo_nil ⟨rfl, rfl, ?_⟩; refine awps_g0 rfl rfl rfl (by decide) rfl (by decide) (stp_binI (r := .bool false) rfl rfl rfl (congrArg (fun b => some (Value.bool b)) l45)) ?_; refine awps_g0 rfl rfl rfl (by decide) rfl (by decide) (stp_pick rfl rfl rfl) ?_; refine awps_stp0 rfl rfl (by decide) (stp_pick rfl rfl rfl) ?_; refine awps_nil ?_; refine thenQ_nil ?_
          refine awp_condF rfl ?_; refine awp_skip ?_; refine thenQ_nil ?_; refine awp_seq ?_; refine awp_region ?_; refine awps_stp0 rfl rfl (by decide) (stp_move (.inr rfl) rfl) ?_; refine awps_nil ?_; refine thenQ_nil ?_; refine awp_block ?_; refine awp_while (k) (fun i => i ≤ k ∧ ∀ (j : Nat) (x : Kp), j < i → l[j]? = some x → eqF x.f u.f = false) (fun i => ⟨[(0, .dat false 7 (kpDs l)), (3, iv (k : Int)), (4, iv (i : Int))], []⟩) (⟨by omega, fun j x hj => absurd hj (by omega)⟩) ?_ (fun i hi hpi => ?_)
          · exact sub_re (SubT.cons (lk_eq rfl (by first | rfl | simp)) (SubT.cons (lk_eq rfl (by first | rfl | simp)) (SubT.cons (lk_eq rfl (by first | rfl | simp)) (SubT.nil)))) (SubO.nil) rfl rfl (noL' (noL hL) _)
          refine awp_seq ?_; refine awp_seq ?_; refine awp_region ?_; refine awps_stp0 rfl rfl (by decide) (stp_move (.inl rfl) rfl) ?_; refine awps_stp0 rfl rfl (by decide) (stp_move (.inl rfl) rfl) ?_; refine awps_stp0 rfl rfl (by decide) (stp_binI rfl rfl rfl rfl) ?_; refine awps_nil ?_; refine thenQ_nil ?_; refine awp_cond rfl (fun c2 => ?_) (fun c2 => ?_)
          · try simp only [↓cqA, cqB] at c2
            obtain ⟨v, hv⟩ := get_of_lt (l := l) (k := i) (by omega)
            have hvw := (hw v (List.mem_of_getElem? hv)).2
            have hvf := step_fact (hp.2.2 i (by omega)) hv
            have hvd := (fact_parts hvf).2.2
            refine awp_skip ?_; refine thenQ_nil ?_; refine awp_seq ?_; refine awp_block ?_; refine awp_seq ?_; refine awp_drawG 10 mixed rfl rfl rfl rfl ?_; refine MGo_c0 rfl (by decide) (.run rfl (stp_move (.inl rfl) rfl)) ?_; refine MGo_c0 rfl (by decide) (.run rfl (stp_move (.inl rfl) rfl)) ?_; refine MGo_c0 rfl (by decide) (.run rfl (stp_indexAddr rfl sl_S_api_Kept rfl rfl (by omega) (kpDs_get hv))) ?_; refine MGo_c0 rfl (by decide) (.run rfl (stp_fieldAddr_elp rfl fo_api_Kept_1 rfl)) ?_; refine MGo_c0 rfl (by decide) (.run rfl (stp_load_elpa rfl tf_api_Fact rfl rfl)) ?_
            refine MGo_c0 rfl (by decide) (.run rfl (stp_move (.inl rfl) rfl)) ?_; refine MGo_c0 rfl (by decide) (.run rfl (stp_move (.inl rfl) rfl)) ?_; refine MGo_c0 rfl (by decide) (.run rfl (stp_indexAddr rfl sl_S_api_Kept rfl rfl (by omega) (kpDs_get hu))) ?_; refine MGo_c0 rfl (by decide) (.run rfl (stp_fieldAddr_elp rfl fo_api_Kept_1 rfl)) ?_; refine MGo_c0 rfl (by decide) (.run rfl (stp_load_elpa rfl tf_api_Fact rfl rfl)) ?_
            refine MGo_nil ⟨rfl, rfl, ?_⟩; refine awps_call (avs := [_, _]) true rfl rfl rfl (by decide) en_almagestref0_EqFact rfl rfl (EqFact_ok v.f u.f hvd hvw huf) rfl rfl ?_; refine awps_nil ?_; refine thenQ_nil ?_; refine awp_cond rfl (fun c3 => ?_) (fun c3 => ?_)
            · try simp only [↓cqA, cqB] at c3
              refine awp_seq ?_; refine awp_region ?_; refine awps_stp0 rfl rfl (by decide) (stp_move (.inr rfl) rfl) ?_; refine awps_nil ?_; refine thenQ_nil ?_; refine awp_ret ?_; refine inQ_ret (thenQ_ret (thenQ_ret (inQ_ret (inQ_ret (thenQ_ret (thenQ_ret (inQ_ret (thenQ_ret (?_)))))))))
              -- leaf g9T0Tl20Tl28Fl32Tl45F2T3T
              refine ret0 (noL hL) (.inl rfl) (resAs_tmp rfl (resAs_nil)) ?_ ?_
              · rfl
              refine ⟨bool_w ?_, rfl⟩
              first
                | (symm; exact hbad k (by omega) (by
                    rw [stepL_get hu, hy]
                    first
                      | (rw [l20]; rfl)
                      | (simp; omega)
                      | (have h5 : ((l.take k).any fun z => sameId z.f u.f) = true := List.any_eq_true.2 ⟨v, List.mem_of_getElem? (i := i) (by rw [List.getElem?_take, if_pos (by omega)]; exact hv), by rw [sameId_eqF hvf l20]; exact c3⟩
                         rw [h5]; simp)))
                | (rw [listB, List.all_eq_true.2 (fun j hj => by
                     have hj := List.mem_range.1 hj
                     exact hp.2.2 j (by omega))]; simp; omega)
                | (rw [listB, decide_eq_false (show ¬ l.length ≤ 300 by omega)]; simp; omega)
                | trace_state
            try simp only [↓cqA, cqB] at c3
            refine awp_skip ?_; refine inQ_nil ?_; refine thenQ_nil ?_; refine awp_region ?_; refine awps_stp0 rfl rfl (by decide) (stp_move (.inl rfl) rfl) ?_; refine awps_stp0 rfl rfl (by decide) (stp_add rfl rfl rfl (by omega)) ?_; refine awps_stp0 rfl rfl (by decide) (stp_move (.inr rfl) rfl) ?_; refine awps_nil ?_; refine thenQ_nil ?_; refine ⟨?_, ?_, ?_⟩
            · skip
              omega
            · skip
              refine ⟨by omega, fun j x hj hx => ?_⟩
              by_cases hji : j < i
              · exact hpi.2 j x hji hx
              · rw [show j = i by omega, hv] at hx; cases hx; exact c3
            exact sub_re (SubT.cons (lk_eq rfl (by first | rfl | simp)) (SubT.cons (lk_eq rfl (by first | rfl | simp)) (SubT.cons (lk_eq rfl (by first | rfl | simp)) (SubT.nil)))) (SubO.nil) rfl rfl (noL' (noL hL) _)
          try simp only [↓cqA, cqB] at c2
          refine awp_exit ?_; refine thenQ_exit (thenQ_exit (inQ_hit ?_)); refine inQ_nil ?_; refine thenQ_nil ?_; refine awp_region ?_; refine awps_stp0 rfl rfl (by decide) (stp_move (.inl rfl) rfl) ?_; refine awps_stp0 rfl rfl (by decide) (stp_add rfl rfl rfl (by omega)) ?_; refine awps_stp0 rfl rfl (by decide) (stp_move (.inr rfl) rfl) ?_; refine awps_nil ?_; refine thenQ_nil ?_; refine ⟨?_, ?_, ?_⟩
          · skip
            omega
          · skip
            refine ⟨by omega, by omega, fun j hj => ?_⟩
            by_cases hjk : j < k
            · exact hp.2.2 j hjk
            · rw [show j = k by omega, stepL_get hu]
              have hany : ((l.take k).any fun z => sameId z.f u.f) = false := List.any_eq_false.2 fun z hz => by
                obtain ⟨q, hq⟩ := List.getElem?_of_mem hz
                rw [List.getElem?_take] at hq
                split at hq
                · rename_i hqk
                  rw [sameId_eqF (step_fact (hp.2.2 q hqk) hq) l20]
                  simp [hpi.2 q z (by omega) hq]
                · cases hq
              rw [hany, l20, hy]
              simp; omega
          exact sub_re (SubT.cons (lk_eq rfl (by first | rfl | simp)) (SubT.cons (lk_eq rfl (by first | rfl | simp)) (SubT.nil))) (SubO.nil) rfl rfl (noL' (noL hL) _)
        have m32 := l32
        try simp only [↓cqA, cqB] at m32
        refine awp_drawG 30 mixed rfl rfl rfl rfl ?_; refine MGo_c0 rfl (by decide) (.run rfl (stp_move (.inl rfl) rfl)) ?_; refine MGo_c0 rfl (by decide) (.run rfl (stp_move (.inl rfl) rfl)) ?_; refine MGo_c0 rfl (by decide) (.run rfl (stp_indexAddr rfl sl_S_api_Kept rfl rfl (by omega) (kpDs_get hu))) ?_; refine MGo_c0 rfl (by decide) (.run rfl (stp_fieldAddr_elp rfl fo_api_Kept_1 rfl)) ?_; refine MGo_c0 rfl (by decide) (.run rfl (stp_load_elpa rfl tf_api_Fact rfl rfl)) ?_
        refine MGo_c0 rfl (by decide) (.run rfl (stp_call (avs := [_]) true rfl en_almagestref7_Fact rfl rfl (by have hh := rFact_ok u.f huf; rw [l20] at hh; exact hh) (fun _ => rfl) rfl)) ?_; refine MGo_c0 rfl (by decide) (.run rfl (stp_not rfl rfl)) ?_; refine MGo_c0 rfl (by decide) (.run rfl (stp_move (.inl rfl) rfl)) ?_; refine MGo_c0 rfl (by decide) (.want rfl rfl rfl (by decide) (stp_move (.inl rfl) rfl)) ?_; refine MGo_c0 rfl (by decide) (.want rfl rfl rfl (by decide) (stp_move (.inl rfl) rfl)) ?_
        refine MGo_c0 rfl (by decide) (.want rfl rfl rfl (by decide) (stp_indexAddr rfl sl_S_api_Kept rfl rfl (by omega) (kpDs_get hu))) ?_; refine MGo_c0 rfl (by decide) (.want rfl rfl rfl (by decide) (stp_fieldAddr_elp rfl fo_api_Kept_0 rfl)) ?_; refine MGo_c0 rfl (by decide) (.want rfl rfl rfl (by decide) (stp_load_elp1 rfl tf_int rfl)) ?_
        refine MGo_c0 rfl (by decide) (.want rfl rfl rfl (by decide) (stp_binI (r := .bool false) rfl rfl rfl (congrArg (fun b => some (Value.bool b)) l28))) ?_; refine MGo_c0 rfl (by decide) (.run rfl (stp_pick rfl rfl rfl)) ?_; refine MGo_c0 rfl (by decide) (.run rfl (stp_move (.inl rfl) rfl)) ?_; refine MGo_c0 rfl (by decide) (.want rfl rfl rfl (by decide) (stp_move (.inl rfl) rfl)) ?_
        refine MGo_c0 rfl (by decide) (.want rfl rfl rfl (by decide) (stp_binI (r := .bool false) rfl rfl rfl (congrArg (fun b => some (Value.bool b)) l32))) ?_; refine MGo_c0 rfl (by decide) (.want rfl rfl rfl (by decide) (stp_move (.inl rfl) rfl)) ?_; refine MGo_c0 rfl (by decide) (.skip rfl rfl rfl (by decide) (by decide)) ?_
        refine MGo_c0 rfl (by decide) (.skip rfl rfl rfl (by decide) (by decide)) ?_; refine MGo_c0 rfl (by decide) (.skip rfl rfl rfl (by decide) (by decide)) ?_; refine MGo_c0 rfl (by decide) (.skip rfl rfl rfl (by decide) (by decide)) ?_; refine MGo_c0 rfl (by decide) (.skip rfl rfl rfl (by decide) (by decide)) ?_
        refine MGo_c0 rfl (by decide) (.skip rfl rfl rfl (by decide) (by decide)) ?_; refine MGo_c0 rfl (by decide) (.skip rfl rfl rfl (by decide) (by decide)) ?_; refine MGo_c0 rfl (by decide) (.skip rfl rfl rfl (by decide) (by decide)) ?_; refine MGo_c0 rfl (by decide) (.skip rfl rfl rfl (by decide) (by decide)) ?_
        refine MGo_c0 rfl (by decide) (.skip rfl rfl rfl (by decide) (by decide)) ?_; refine MGo_c0 rfl (by decide) (.skip rfl rfl rfl (by decide) (by decide)) ?_; refine MGo_nil ⟨rfl, rfl, ?_⟩; refine awps_gs rfl rfl rfl rfl (by decide) rfl (by decide) ?_; refine awps_g0 rfl rfl rfl (by decide) rfl (by decide) (stp_pick rfl rfl rfl) ?_
        refine awps_stp0 rfl rfl (by decide) (stp_pick rfl rfl rfl) ?_; refine awps_nil ?_; refine thenQ_nil ?_; refine awp_condF rfl ?_; refine awp_skip ?_; refine thenQ_nil ?_; refine awp_seq ?_; refine awp_region ?_; refine awps_stp0 rfl rfl (by decide) (stp_move (.inr rfl) rfl) ?_; refine awps_nil ?_; refine thenQ_nil ?_; refine awp_block ?_
        refine awp_while (k) (fun i => i ≤ k ∧ ∀ (j : Nat) (x : Kp), j < i → l[j]? = some x → eqF x.f u.f = false) (fun i => ⟨[(0, .dat false 7 (kpDs l)), (3, iv (k : Int)), (4, iv (i : Int))], []⟩) (⟨by omega, fun j x hj => absurd hj (by omega)⟩) ?_ (fun i hi hpi => ?_)
        · exact sub_re (SubT.cons (lk_eq rfl (by first | rfl | simp)) (SubT.cons (lk_eq rfl (by first | rfl | simp)) (SubT.cons (lk_eq rfl (by first | rfl | simp)) (SubT.nil)))) (SubO.nil) rfl rfl (noL' (noL hL) _)
        refine awp_seq ?_; refine awp_seq ?_; refine awp_region ?_; refine awps_stp0 rfl rfl (by decide) (stp_move (.inl rfl) rfl) ?_; refine awps_stp0 rfl rfl (by decide) (stp_move (.inl rfl) rfl) ?_; refine awps_stp0 rfl rfl (by decide) (stp_binI rfl rfl rfl rfl) ?_; refine awps_nil ?_; refine thenQ_nil ?_; refine awp_cond rfl (fun c2 => ?_) (fun c2 => ?_)
        · try simp only [↓cqA, cqB] at c2
          obtain ⟨v, hv⟩ := get_of_lt (l := l) (k := i) (by omega)
          have hvw := (hw v (List.mem_of_getElem? hv)).2
          have hvf := step_fact (hp.2.2 i (by omega)) hv
          have hvd := (fact_parts hvf).2.2
          refine awp_skip ?_; refine thenQ_nil ?_; refine awp_seq ?_; refine awp_block ?_; refine awp_seq ?_; refine awp_drawG 10 mixed rfl rfl rfl rfl ?_; refine MGo_c0 rfl (by decide) (.run rfl (stp_move (.inl rfl) rfl)) ?_; refine MGo_c0 rfl (by decide) (.run rfl (stp_move (.inl rfl) rfl)) ?_; refine MGo_c0 rfl (by decide) (.run rfl (stp_indexAddr rfl sl_S_api_Kept rfl rfl (by omega) (kpDs_get hv))) ?_; refine MGo_c0 rfl (by decide) (.run rfl (stp_fieldAddr_elp rfl fo_api_Kept_1 rfl)) ?_; refine MGo_c0 rfl (by decide) (.run rfl (stp_load_elpa rfl tf_api_Fact rfl rfl)) ?_
          refine MGo_c0 rfl (by decide) (.run rfl (stp_move (.inl rfl) rfl)) ?_; refine MGo_c0 rfl (by decide) (.run rfl (stp_move (.inl rfl) rfl)) ?_; refine MGo_c0 rfl (by decide) (.run rfl (stp_indexAddr rfl sl_S_api_Kept rfl rfl (by omega) (kpDs_get hu))) ?_; refine MGo_c0 rfl (by decide) (.run rfl (stp_fieldAddr_elp rfl fo_api_Kept_1 rfl)) ?_; refine MGo_c0 rfl (by decide) (.run rfl (stp_load_elpa rfl tf_api_Fact rfl rfl)) ?_
          refine MGo_nil ⟨rfl, rfl, ?_⟩; refine awps_call (avs := [_, _]) true rfl rfl rfl (by decide) en_almagestref0_EqFact rfl rfl (EqFact_ok v.f u.f hvd hvw huf) rfl rfl ?_; refine awps_nil ?_; refine thenQ_nil ?_; refine awp_cond rfl (fun c3 => ?_) (fun c3 => ?_)
          · try simp only [↓cqA, cqB] at c3
            refine awp_seq ?_; refine awp_region ?_; refine awps_stp0 rfl rfl (by decide) (stp_move (.inr rfl) rfl) ?_; refine awps_nil ?_; refine thenQ_nil ?_; refine awp_ret ?_; refine inQ_ret (thenQ_ret (thenQ_ret (inQ_ret (inQ_ret (thenQ_ret (thenQ_ret (inQ_ret (thenQ_ret (?_)))))))))
            -- leaf g9T0Tl20Tl28Fl32F2T3T
            refine ret0 (noL hL) (.inl rfl) (resAs_tmp rfl (resAs_nil)) ?_ ?_
            · rfl
            refine ⟨bool_w ?_, rfl⟩
            first
              | (symm; exact hbad k (by omega) (by
                  rw [stepL_get hu, hy]
                  first
                    | (rw [l20]; rfl)
                    | (simp; omega)
                    | (have h5 : ((l.take k).any fun z => sameId z.f u.f) = true := List.any_eq_true.2 ⟨v, List.mem_of_getElem? (i := i) (by rw [List.getElem?_take, if_pos (by omega)]; exact hv), by rw [sameId_eqF hvf l20]; exact c3⟩
                       rw [h5]; simp)))
              | (rw [listB, List.all_eq_true.2 (fun j hj => by
                   have hj := List.mem_range.1 hj
                   exact hp.2.2 j (by omega))]; simp; omega)
              | (rw [listB, decide_eq_false (show ¬ l.length ≤ 300 by omega)]; simp; omega)
              | trace_state
          try simp only [↓cqA, cqB] at c3
          refine awp_skip ?_; refine inQ_nil ?_; refine thenQ_nil ?_; refine awp_region ?_; refine awps_stp0 rfl rfl (by decide) (stp_move (.inl rfl) rfl) ?_; refine awps_stp0 rfl rfl (by decide) (stp_add rfl rfl rfl (by omega)) ?_; refine awps_stp0 rfl rfl (by decide) (stp_move (.inr rfl) rfl) ?_; refine awps_nil ?_; refine thenQ_nil ?_; refine ⟨?_, ?_, ?_⟩
          · skip
            omega
          · skip
            refine ⟨by omega, fun j x hj hx => ?_⟩
            by_cases hji : j < i
            · exact hpi.2 j x hji hx
            · rw [show j = i by omega, hv] at hx; cases hx; exact c3
          exact sub_re (SubT.cons (lk_eq rfl (by first | rfl | simp)) (SubT.cons (lk_eq rfl (by first | rfl | simp)) (SubT.cons (lk_eq rfl (by first | rfl | simp)) (SubT.nil)))) (SubO.nil) rfl rfl (noL' (noL hL) _)
        try simp only [↓cqA, cqB] at c2
        refine awp_exit ?_; refine thenQ_exit (thenQ_exit (inQ_hit ?_)); refine inQ_nil ?_; refine thenQ_nil ?_; refine awp_region ?_; refine awps_stp0 rfl rfl (by decide) (stp_move (.inl rfl) rfl) ?_; refine awps_stp0 rfl rfl (by decide) (stp_add rfl rfl rfl (by omega)) ?_; refine awps_stp0 rfl rfl (by decide) (stp_move (.inr rfl) rfl) ?_; refine awps_nil ?_; refine thenQ_nil ?_; refine ⟨?_, ?_, ?_⟩
        · skip
          omega
        · skip
          refine ⟨by omega, by omega, fun j hj => ?_⟩
          by_cases hjk : j < k
          · exact hp.2.2 j hjk
          · rw [show j = k by omega, stepL_get hu]
            have hany : ((l.take k).any fun z => sameId z.f u.f) = false := List.any_eq_false.2 fun z hz => by
              obtain ⟨q, hq⟩ := List.getElem?_of_mem hz
              rw [List.getElem?_take] at hq
              split at hq
              · rename_i hqk
                rw [sameId_eqF (step_fact (hp.2.2 q hqk) hq) l20]
                simp [hpi.2 q z (by omega) hq]
              · cases hq
            rw [hany, l20, hy]
            simp; omega
        exact sub_re (SubT.cons (lk_eq rfl (by first | rfl | simp)) (SubT.cons (lk_eq rfl (by first | rfl | simp)) (SubT.nil))) (SubO.nil) rfl rfl (noL' (noL hL) _)
      have m20 := l20
      try simp only [↓cqA, cqB] at m20
      refine awp_drawG 30 mixed rfl rfl rfl rfl ?_; refine MGo_c0 rfl (by decide) (.run rfl (stp_move (.inl rfl) rfl)) ?_; refine MGo_c0 rfl (by decide) (.run rfl (stp_move (.inl rfl) rfl)) ?_; refine MGo_c0 rfl (by decide) (.run rfl (stp_indexAddr rfl sl_S_api_Kept rfl rfl (by omega) (kpDs_get hu))) ?_; refine MGo_c0 rfl (by decide) (.run rfl (stp_fieldAddr_elp rfl fo_api_Kept_1 rfl)) ?_; refine MGo_c0 rfl (by decide) (.run rfl (stp_load_elpa rfl tf_api_Fact rfl rfl)) ?_
      refine MGo_c0 rfl (by decide) (.run rfl (stp_call (avs := [_]) true rfl en_almagestref7_Fact rfl rfl (by have hh := rFact_ok u.f huf; rw [l20] at hh; exact hh) (fun _ => rfl) rfl)) ?_; refine MGo_c0 rfl (by decide) (.run rfl (stp_not rfl rfl)) ?_; refine MGo_c0 rfl (by decide) (.run rfl (stp_move (.inl rfl) rfl)) ?_
      refine MGo_c0 rfl (by decide) (.skip rfl rfl rfl (by decide) (by decide)) ?_; refine MGo_c0 rfl (by decide) (.skip rfl rfl rfl (by decide) (by decide)) ?_; refine MGo_c0 rfl (by decide) (.skip rfl rfl rfl (by decide) (by decide)) ?_; refine MGo_c0 rfl (by decide) (.skip rfl rfl rfl (by decide) (by decide)) ?_; refine MGo_c0 rfl (by decide) (.skip rfl rfl rfl (by decide) (by decide)) ?_
      refine MGo_c0 rfl (by decide) (.skip rfl rfl rfl (by decide) (by decide)) ?_; refine MGo_c0 rfl (by decide) (.run rfl (stp_pick rfl rfl rfl)) ?_; refine MGo_c0 rfl (by decide) (.run rfl (stp_move (.inl rfl) rfl)) ?_; refine MGo_c0 rfl (by decide) (.skip rfl rfl rfl (by decide) (by decide)) ?_; refine MGo_c0 rfl (by decide) (.skip rfl rfl rfl (by decide) (by decide)) ?_
      refine MGo_c0 rfl (by decide) (.skip rfl rfl rfl (by decide) (by decide)) ?_; refine MGo_c0 rfl (by decide) (.skipu rfl rfl rfl (by decide)) ?_; refine MGo_c0 rfl (by decide) (.skipu rfl rfl rfl (by decide)) ?_; refine MGo_c0 rfl (by decide) (.skipu rfl rfl rfl (by decide)) ?_; refine MGo_c0 rfl (by decide) (.skipu rfl rfl rfl (by decide)) ?_
      refine MGo_c0 rfl (by decide) (.skipu rfl rfl rfl (by decide)) ?_; refine MGo_c0 rfl (by decide) (.skipu rfl rfl rfl (by decide)) ?_; refine MGo_c0 rfl (by decide) (.skipu rfl rfl rfl (by decide)) ?_; refine MGo_c0 rfl (by decide) (.skipu rfl rfl rfl (by decide)) ?_; refine MGo_c0 rfl (by decide) (.skipu rfl rfl rfl (by decide)) ?_
      refine MGo_c0 rfl (by decide) (.skipu rfl rfl rfl (by decide)) ?_; refine MGo_c0 rfl (by decide) (.skipu rfl rfl rfl (by decide)) ?_; refine MGo_nil ⟨rfl, rfl, ?_⟩; refine awps_gu rfl rfl rfl (by decide) rfl (by decide) ?_; refine awps_gs rfl rfl rfl rfl (by decide) rfl (by decide) ?_; refine awps_stp0 rfl rfl (by decide) (stp_pick rfl rfl rfl) ?_; refine awps_nil ?_
      refine thenQ_nil ?_; refine awp_condT rfl ?_; refine awp_seq ?_; refine awp_region ?_; refine awps_stp0 rfl rfl (by decide) (stp_move (.inr rfl) rfl) ?_; refine awps_nil ?_; refine thenQ_nil ?_; refine awp_ret ?_; refine thenQ_ret (inQ_ret (thenQ_ret (thenQ_ret (inQ_ret (thenQ_ret (?_))))))
      -- leaf g9T0Tl20F
      refine ret0 (noL hL) (.inl rfl) (resAs_tmp rfl (resAs_nil)) ?_ ?_
      · rfl
      refine ⟨bool_w ?_, rfl⟩
      first
        | (symm; exact hbad k (by omega) (by
            rw [stepL_get hu, hy]
            first
              | (rw [l20]; rfl)
              | (simp; omega)
              | (have h5 : ((l.take k).any fun z => sameId z.f u.f) = true := List.any_eq_true.2 ⟨v, List.mem_of_getElem? (i := i) (by rw [List.getElem?_take, if_pos (by omega)]; exact hv), by rw [sameId_eqF hvf l20]; exact c3⟩
                 rw [h5]; simp)))
        | (rw [listB, List.all_eq_true.2 (fun j hj => by
             have hj := List.mem_range.1 hj
             exact hp.2.2 j (by omega))]; simp; omega)
        | (rw [listB, decide_eq_false (show ¬ l.length ≤ 300 by omega)]; simp; omega)
        | trace_state
    try simp only [↓cqA, cqB] at c0
    refine awp_exit ?_; refine thenQ_exit (thenQ_exit (inQ_hit ?_)); refine thenQ_nil ?_; refine awp_seq ?_; refine awp_region ?_; refine awps_stp0 rfl rfl (by decide) (stp_move (.inl rfl) rfl) ?_; refine awps_stp0 rfl rfl (by decide) (stp_len_dat rfl sl_S_api_Kept rfl) ?_; refine awps_stp0 rfl rfl (by decide) (stp_binI rfl rfl rfl rfl) ?_; refine awps_stp0 rfl rfl (by decide) (stp_move (.inr rfl) rfl) ?_; refine awps_nil ?_; refine thenQ_nil ?_; refine awp_ret ?_
    -- leaf g9T0F
    refine ret0 (noL hL) (.inl rfl) (resAs_tmp rfl (resAs_nil)) ?_ ?_
    · rfl
    refine ⟨bool_w ?_, rfl⟩
    first
      | (symm; exact hbad k (by omega) (by
          rw [stepL_get hu, hy]
          first
            | (rw [l20]; rfl)
            | (simp; omega)
            | (have h5 : ((l.take k).any fun z => sameId z.f u.f) = true := List.any_eq_true.2 ⟨v, List.mem_of_getElem? (i := i) (by rw [List.getElem?_take, if_pos (by omega)]; exact hv), by rw [sameId_eqF hvf l20]; exact c3⟩
               rw [h5]; simp)))
      | (rw [listB, List.all_eq_true.2 (fun j hj => by
           have hj := List.mem_range.1 hj
           exact hp.2.2 j (by omega))]; simp; omega)
      | (rw [listB, decide_eq_false (show ¬ l.length ≤ 300 by omega)]; simp; omega)
      | trace_state
  try simp only [↓cqA, cqB] at g9
  refine awps_gs rfl rfl rfl rfl (by decide) rfl (by decide) ?_; refine awps_gs rfl rfl rfl rfl (by decide) rfl (by decide) ?_; refine awps_stp0 rfl rfl (by decide) (stp_pick rfl rfl rfl) ?_; refine awps_nil ?_; refine thenQ_nil ?_; refine awp_condF rfl ?_; refine awp_exit ?_; refine thenQ_exit (thenQ_exit (inQ_hit ?_)); refine thenQ_nil ?_; refine awp_seq ?_; refine awp_region ?_; refine awps_stp0 rfl rfl (by decide) (stp_move (.inl rfl) rfl) ?_; refine awps_stp0 rfl rfl (by decide) (stp_len_dat rfl sl_S_api_Kept rfl) ?_
  refine awps_stp0 rfl rfl (by decide) (stp_binI rfl rfl rfl rfl) ?_; refine awps_stp0 rfl rfl (by decide) (stp_move (.inr rfl) rfl) ?_; refine awps_nil ?_; refine thenQ_nil ?_; refine awp_ret ?_
  -- leaf g9F
  refine ret0 (noL hL) (.inl rfl) (resAs_tmp rfl (resAs_nil)) ?_ ?_
  · rfl
  refine ⟨bool_w ?_, rfl⟩
  first
    | (symm; exact hbad k (by omega) (by
        rw [stepL_get hu, hy]
        first
          | (rw [l20]; rfl)
          | (simp; omega)
          | (have h5 : ((l.take k).any fun z => sameId z.f u.f) = true := List.any_eq_true.2 ⟨v, List.mem_of_getElem? (i := i) (by rw [List.getElem?_take, if_pos (by omega)]; exact hv), by rw [sameId_eqF hvf l20]; exact c3⟩
             rw [h5]; simp)))
    | (rw [listB, List.all_eq_true.2 (fun j hj => by
         have hj := List.mem_range.1 hj
         exact hp.2.2 j (by omega))]; simp; omega)
    | (rw [listB, decide_eq_false (show ¬ l.length ≤ 300 by omega)]; simp; omega)
    | trace_state
theorem rFind_ok (l : List Kp) (hll : l.length ≤ 1000000000) (hw : ∀ k ∈ l, k.wf) (hm : ∀ k ∈ l, factB k.f = true) (f : Ft) (hf : f.wf) : PF 54 [.dat false 7 (kpDs l), ftA f] (iv (atN f l)) := by
  have hlen := kpDs_length l
  refine AC_intro Tryz.func54 rfl Tryz.ntmps54 (Nat.le_of_ble_eq_true rfl) fun c hL hQ hDD => ?_; refine awp_seq ?_; refine awp_region ?_; refine awps_stp1 rfl rfl (by decide) (stp_box 3 rfl rfl rfl) rfl ?_; refine awps_stp0 rfl rfl (by decide) (stp_move (.inr rfl) rfl) ?_; refine awps_nil ?_; refine thenQ_nil ?_; refine awp_seq ?_; refine awp_seq ?_; refine awp_region ?_; refine awps_stp0 rfl rfl (by decide) (stp_move (.inr rfl) rfl) ?_; refine awps_nil ?_; refine thenQ_nil ?_; refine awp_block ?_
  refine awp_while (l.length) (fun k => k ≤ l.length ∧ ∀ (j : Nat) (x : Kp), j < k → l[j]? = some x → cmpF x.f f ≠ 0) (fun k => ⟨[(0, .dat false 7 (kpDs l)), (3, .ptr 3 0), (5, iv (k : Int))], [(3, .box (lift false (ftD f)))]⟩) (⟨by omega, fun j x hj => absurd hj (by omega)⟩) ?_ (fun k hk hp => ?_)
  · exact sub_re (SubT.cons (lk_eq rfl (by first | rfl | simp)) (SubT.cons (lk_eq rfl (by first | rfl | simp)) (SubT.cons (lk_eq rfl (by first | rfl | simp)) (SubT.nil)))) (SubO.cons (ok_eq rfl (by rfl)) (SubO.nil)) rfl rfl (noL' (noL hL) _)
  refine awp_seq ?_; refine awp_seq ?_; refine awp_region ?_; refine awps_stp0 rfl rfl (by decide) (stp_move (.inl rfl) rfl) ?_; refine awps_stp0 rfl rfl (by decide) (stp_move (.inl rfl) rfl) ?_; refine awps_stp0 rfl rfl (by decide) (stp_len_dat rfl sl_S_api_Kept rfl) ?_; refine awps_stp0 rfl rfl (by decide) (stp_binI rfl rfl rfl rfl) ?_; refine awps_nil ?_; refine thenQ_nil ?_; refine awp_cond rfl (fun c0 => ?_) (fun c0 => ?_)
  · try simp only [↓cqA, cqB] at c0
    obtain ⟨u, hu⟩ := get_of_lt (l := l) (k := k) (by omega)
    have hum := List.mem_of_getElem? hu
    have hud := (fact_parts (hm u hum)).2.2
    have hz := cmpF_zero (a := u.f) (b := f) hud
    refine awp_skip ?_; refine thenQ_nil ?_; refine awp_seq ?_; refine awp_block ?_; refine awp_seq ?_; refine awp_drawG 6 mixed rfl rfl rfl rfl ?_; refine MGo_c0 rfl (by decide) (.run rfl (stp_move (.inl rfl) rfl)) ?_; refine MGo_c0 rfl (by decide) (.run rfl (stp_move (.inl rfl) rfl)) ?_; refine MGo_c0 rfl (by decide) (.run rfl (stp_indexAddr rfl sl_S_api_Kept rfl rfl (by omega) (kpDs_get hu))) ?_; refine MGo_c0 rfl (by decide) (.run rfl (stp_fieldAddr_elp rfl fo_api_Kept_1 rfl)) ?_; refine MGo_c0 rfl (by decide) (.run rfl (stp_load_elpa rfl tf_api_Fact rfl rfl)) ?_
    refine MGo_c0 rfl (by decide) (.run rfl (stp_load_all rfl tf_api_Fact rfl rfl rfl rfl)) ?_; refine MGo_nil ⟨rfl, rfl, ?_⟩; refine awps_call (avs := [_, _]) true rfl rfl rfl (by decide) en_almagestref0_EqFact rfl rfl (EqFact_ok u.f f hud (hw u hum).2 hf) rfl rfl ?_; refine awps_nil ?_; refine thenQ_nil ?_; refine awp_cond rfl (fun c1 => ?_) (fun c1 => ?_)
    · try simp only [↓cqA, cqB] at c1
      refine awp_seq ?_; refine awp_region ?_; refine awps_stp0 rfl rfl (by decide) (stp_move (.inl rfl) rfl) ?_; refine awps_stp0 rfl rfl (by decide) (stp_move (.inr rfl) rfl) ?_; refine awps_nil ?_; refine thenQ_nil ?_; refine awp_ret ?_; refine inQ_ret (thenQ_ret (thenQ_ret (inQ_ret (thenQ_ret (?_)))))
      -- leaf 0T1T
      refine ret0 (noL hL) (.inl rfl) (resAs_tmp rfl (resAs_nil)) ?_ ?_
      · rfl
      refine ⟨int_w ?_, rfl⟩
      exact (atN_some f l k u hu (hz.2 c1) hp.2).symm
    try simp only [↓cqA, cqB] at c1
    refine awp_skip ?_; refine inQ_nil ?_; refine thenQ_nil ?_; refine awp_region ?_; refine awps_stp0 rfl rfl (by decide) (stp_move (.inl rfl) rfl) ?_; refine awps_stp0 rfl rfl (by decide) (stp_add rfl rfl rfl (by omega)) ?_; refine awps_stp0 rfl rfl (by decide) (stp_move (.inr rfl) rfl) ?_; refine awps_nil ?_; refine thenQ_nil ?_; refine ⟨?_, ?_, ?_⟩
    · skip
      omega
    · skip
      refine ⟨by omega, fun j x hj hx => ?_⟩
      by_cases hjk : j < k
      · exact hp.2 j x hjk hx
      · rw [show j = k by omega, hu] at hx; cases hx
        exact fun e => by rw [hz.1 e] at c1; cases c1
    exact sub_re (SubT.cons (lk_eq rfl (by first | rfl | simp)) (SubT.cons (lk_eq rfl (by first | rfl | simp)) (SubT.cons (lk_eq rfl (by first | rfl | simp)) (SubT.nil)))) (SubO.cons (ok_eq rfl (by rfl)) (SubO.nil)) rfl rfl (noL' (noL hL) _)
  try simp only [↓cqA, cqB] at c0
  refine awp_exit ?_; refine thenQ_exit (thenQ_exit (inQ_hit ?_)); refine thenQ_nil ?_; refine awp_seq ?_; refine awp_region ?_; refine awps_stp0 rfl rfl (by decide) (stp_move (.inr rfl) rfl) ?_; refine awps_nil ?_; refine thenQ_nil ?_; refine awp_ret ?_
  -- leaf 0F
  refine ret0 (noL hL) (.inl rfl) (resAs_tmp rfl (resAs_nil)) ?_ ?_
  · rfl
  refine ⟨int_w ?_, rfl⟩
  exact (atN_none f l fun j y hy => hp.2 j y (by have := (List.getElem?_eq_some_iff.1 hy).1; omega) hy).symm
def putF (f : Ft) : List Ft → List Ft
  | [] => [f]
  | a :: l => if ordF a f < 0 then a :: putF f l else if ordF a f = 0 then a :: l else f :: a :: l
theorem putF_take (f : Ft) : ∀ (l : List Ft) (k : Nat), k ≤ l.length → (∀ (j : Nat) (x : Ft), j < k → l[j]? = some x → ordF x f < 0) → putF f l = l.take k ++ putF f (l.drop k)
  | l, 0, _, _ => by simp
  | [], k + 1, h, _ => by simp at h
  | a :: l, k + 1, h, hj => by
    rw [putF, if_pos (hj 0 a (by omega) (by simp)), putF_take f l k (by simpa using h) (fun j x h1 h2 => hj (j + 1) x (by omega) (by simpa using h2))]
    simp
theorem putF_end {f : Ft} {l : List Ft} {k : Nat} (hk : k = l.length) (hj : ∀ (j : Nat) (x : Ft), j < k → l[j]? = some x → ordF x f < 0) : putF f l = l.take k ++ [f] ++ l.drop k := by
  rw [putF_take f l k (by omega) hj, List.drop_eq_nil_of_le (by omega)]; simp [putF]
theorem putF_here {f : Ft} {l : List Ft} {k : Nat} {u : Ft} (hu : l[k]? = some u) (hj : ∀ (j : Nat) (x : Ft), j < k → l[j]? = some x → ordF x f < 0) (h : 0 ≤ ordF u f) : putF f l = if ordF u f = 0 then l else l.take k ++ [f] ++ l.drop k := by
  obtain ⟨hk, e⟩ := List.getElem?_eq_some_iff.1 hu
  rw [putF_take f l k (by omega) hj, List.drop_eq_getElem_cons hk, e, putF, if_neg (by omega)]
  split
  · have : l = l.take k ++ l.drop k := (List.take_append_drop k l).symm
    rw [List.drop_eq_getElem_cons hk, e] at this
    exact this.symm
  · simp
theorem mem_putF (f : Ft) : ∀ (l : List Ft) (y : Ft), y ∈ putF f l → y = f ∨ y ∈ l
  | [], y, h => by simp only [putF, List.mem_singleton] at h; exact .inl h
  | a :: l, y, h => by
    rw [putF] at h
    split at h
    · rcases List.mem_cons.1 h with rfl | h
      · exact .inr (by simp)
      · rcases mem_putF f l y h with h | h
        · exact .inl h
        · exact .inr (by simp [h])
    · split at h
      · exact .inr h
      · rcases List.mem_cons.1 h with rfl | h
        · exact .inl rfl
        · exact .inr h
theorem putF_law (f : Ft) (hf : factB f = true) : ∀ l : List Ft, (∀ x ∈ l, factB x = true ∧ x ≠ f) → l.Pairwise (fun a b => cmpF a b ≤ 0) → (putF f l).Perm (f :: l) ∧ (putF f l).Pairwise (fun a b => cmpF a b ≤ 0)
  | [], _, _ => ⟨.refl _, by simp [putF]⟩
  | a :: l, h, hs => by
    obtain ⟨ha, hne⟩ := h a (by simp)
    obtain ⟨ih1, ih2⟩ := putF_law f hf l (fun x hx => h x (by simp [hx])) (List.pairwise_cons.1 hs).2
    have h0 := (List.pairwise_cons.1 hs).1
    have hz : cmpF a f ≠ 0 := fun e => hne ((cmpF_eq (fact_parts ha).2.2).1 e)
    rw [putF, ord_cmp ha hf]
    split
    · rename_i h1
      refine ⟨(ih1.cons a).trans (.swap f a l), List.pairwise_cons.2 ⟨fun y hy => ?_, ih2⟩⟩
      rcases mem_putF f l y hy with rfl | hy
      · omega
      · exact h0 y hy
    · try rw [if_neg hz]
      have h2 := TP.ft.anti a f
      refine ⟨.refl _, List.pairwise_cons.2 ⟨fun y hy => ?_, hs⟩⟩
      rcases List.mem_cons.1 hy with rfl | hy
      · omega
      · exact TP.ft.tr f a y (by omega) (h0 y hy)
theorem Put7_ok (l : List Ft) (hl : l.length ≤ 1000000) (hw : ∀ x ∈ l, x.wf) (hm : ∀ x ∈ l, factB x = true) (f : Ft) (hf : f.wf) (hfm : factB f = true) : PF 122 [.dat false 6 (ftDs l), ftA f] (.dat false 6 (ftDs (putF f l))) := by
  have hlen := ftDs_length l
  have hd : ∀ x ∈ l, dle 5 x.t := fun x hx => (fact_parts (hm x hx)).2.2
  have hfd := (fact_parts hfm).2.2
  refine AC_intro Tryz.func122 rfl Tryz.ntmps122 (Nat.le_of_ble_eq_true rfl) fun c hL hQ hDD => ?_; refine awp_seq ?_; refine awp_region ?_; refine awps_stp1 rfl rfl (by decide) (stp_box 3 rfl rfl rfl) rfl ?_; refine awps_stp0 rfl rfl (by decide) (stp_move (.inr rfl) rfl) ?_; refine awps_nil ?_; refine thenQ_nil ?_; refine awp_seq ?_; refine awp_region ?_; refine awps_stp0 rfl rfl (by decide) (stp_move (.inr rfl) rfl) ?_; refine awps_nil ?_; refine thenQ_nil ?_; refine awp_seq ?_; refine awp_block ?_
  refine awp_while (l.length) (fun k => k ≤ l.length ∧ ∀ (j : Nat) (x : Ft), j < k → l[j]? = some x → ordF x f < 0) (fun k => ⟨[(0, .dat false 6 (ftDs l)), (3, .ptr 3 0), (5, iv (k : Int))], [(3, .box (lift false (ftD f)))]⟩) (⟨by omega, fun j x hj => absurd hj (by omega)⟩) ?_ (fun k hk hp => ?_)
  · exact sub_re (SubT.cons (lk_eq rfl (by first | rfl | simp)) (SubT.cons (lk_eq rfl (by first | rfl | simp)) (SubT.cons (lk_eq rfl (by first | rfl | simp)) (SubT.nil)))) (SubO.cons (ok_eq rfl (by rfl)) (SubO.nil)) rfl rfl (noL' (noL hL) _)
  refine awp_seq ?_; refine awp_seq ?_
  rcases Bool.eq_false_or_eq_true (decide ((k : Int) < (ftDs l).length)) with l9 | l9
  · have m9 := l9
    try simp only [↓cqA, cqB] at m9
    obtain ⟨u, hu⟩ := get_of_lt (l := l) (k := k) (by omega)
    have hum := List.mem_of_getElem? hu
    refine awp_drawG 10 mixed rfl rfl rfl rfl ?_; refine MGo_c0 rfl (by decide) (.run rfl (stp_move (.inl rfl) rfl)) ?_; refine MGo_c0 rfl (by decide) (.run rfl (stp_move (.inl rfl) rfl)) ?_; refine MGo_c0 rfl (by decide) (.run rfl (stp_len_dat rfl sl_S_api_Fact rfl)) ?_
    refine MGo_c0 rfl (by decide) (.run rfl (stp_binI (r := .bool true) rfl rfl rfl (congrArg (fun b => some (Value.bool b)) l9))) ?_; refine MGo_c0 rfl (by decide) (.run rfl (stp_move (.inl rfl) rfl)) ?_; refine MGo_c0 rfl (by decide) (.want rfl rfl rfl (by decide) (stp_move (.inl rfl) rfl)) ?_; refine MGo_c0 rfl (by decide) (.want rfl rfl rfl (by decide) (stp_move (.inl rfl) rfl)) ?_; refine MGo_c0 rfl (by decide) (.want rfl rfl rfl (by decide) (stp_indexAddr rfl sl_S_api_Fact rfl rfl (by omega) (ftDs_get hu))) ?_
    refine MGo_c0 rfl (by decide) (.want rfl rfl rfl (by decide) (stp_load_elpa rfl tf_api_Fact rfl rfl)) ?_; refine MGo_c0 rfl (by decide) (.want rfl rfl rfl (by decide) (stp_load_all rfl tf_api_Fact rfl rfl rfl rfl)) ?_
    refine MGo_nil ⟨rfl, rfl, ?_⟩; refine awps_g0 rfl rfl rfl (by decide) rfl (by decide) (stp_call (avs := [_, _]) true rfl en_almagestref7_Order rfl rfl (rOrder_ok u f (hd u hum) (hw u hum) hf) (fun _ => rfl) rfl) ?_; refine awps_g0 rfl rfl rfl (by decide) rfl (by decide) (stp_binI rfl rfl rfl rfl) ?_; refine awps_stp0 rfl rfl (by decide) (stp_pick rfl rfl rfl) ?_; refine awps_nil ?_; refine thenQ_nil ?_; refine awp_cond rfl (fun c0 => ?_) (fun c0 => ?_)
    · try simp only [↓cqA, cqB] at c0
      refine awp_skip ?_; refine thenQ_nil ?_; refine awp_block ?_; refine awp_region ?_; refine awps_stp0 rfl rfl (by decide) (stp_move (.inl rfl) rfl) ?_; refine awps_stp0 rfl rfl (by decide) (stp_add rfl rfl rfl (by omega)) ?_; refine awps_stp0 rfl rfl (by decide) (stp_move (.inr rfl) rfl) ?_; refine awps_nil ?_; refine inQ_nil ?_; refine thenQ_nil ?_; refine ⟨?_, ?_, ?_⟩
      · skip
        omega
      · skip
        refine ⟨by omega, fun j x hj hx => ?_⟩
        by_cases hjk : j < k
        · exact hp.2 j x hjk hx
        · rw [show j = k by omega, hu] at hx; cases hx; exact c0
      exact sub_re (SubT.cons (lk_eq rfl (by first | rfl | simp)) (SubT.cons (lk_eq rfl (by first | rfl | simp)) (SubT.cons (lk_eq rfl (by first | rfl | simp)) (SubT.nil)))) (SubO.cons (ok_eq rfl (by rfl)) (SubO.nil)) rfl rfl (noL' (noL hL) _)
    try simp only [↓cqA, cqB] at c0
    refine awp_exit ?_; refine thenQ_exit (thenQ_exit (inQ_hit ?_)); refine thenQ_nil ?_; refine awp_seq ?_; refine awp_seq ?_
    rcases Bool.eq_false_or_eq_true (decide ((k : Int) < (ftDs l).length)) with l24 | l24
    · have m24 := l24
      try simp only [↓cqA, cqB] at m24
      obtain ⟨u2, hu2⟩ := get_of_lt (l := l) (k := k) (by omega)
      have hum2 := List.mem_of_getElem? hu2
      refine awp_drawG 10 mixed rfl rfl rfl rfl ?_; refine MGo_c0 rfl (by decide) (.run rfl (stp_move (.inl rfl) rfl)) ?_; refine MGo_c0 rfl (by decide) (.run rfl (stp_move (.inl rfl) rfl)) ?_; refine MGo_c0 rfl (by decide) (.run rfl (stp_len_dat rfl sl_S_api_Fact rfl)) ?_
      refine MGo_c0 rfl (by decide) (.run rfl (stp_binI (r := .bool true) rfl rfl rfl (congrArg (fun b => some (Value.bool b)) l24))) ?_; refine MGo_c0 rfl (by decide) (.run rfl (stp_move (.inl rfl) rfl)) ?_; refine MGo_c0 rfl (by decide) (.want rfl rfl rfl (by decide) (stp_move (.inl rfl) rfl)) ?_; refine MGo_c0 rfl (by decide) (.want rfl rfl rfl (by decide) (stp_move (.inl rfl) rfl)) ?_; refine MGo_c0 rfl (by decide) (.want rfl rfl rfl (by decide) (stp_indexAddr rfl sl_S_api_Fact rfl rfl (by omega) (ftDs_get hu2))) ?_
      refine MGo_c0 rfl (by decide) (.want rfl rfl rfl (by decide) (stp_load_elpa rfl tf_api_Fact rfl rfl)) ?_; refine MGo_c0 rfl (by decide) (.want rfl rfl rfl (by decide) (stp_load_all rfl tf_api_Fact rfl rfl rfl rfl)) ?_
      refine MGo_nil ⟨rfl, rfl, ?_⟩; refine awps_g0 rfl rfl rfl (by decide) rfl (by decide) (stp_call (avs := [_, _]) true rfl en_almagestref7_Order rfl rfl (rOrder_ok u2 f (hd u2 hum2) (hw u2 hum2) hf) (fun _ => rfl) rfl) ?_; refine awps_g0 rfl rfl rfl (by decide) rfl (by decide) (stp_binI rfl rfl rfl rfl) ?_; refine awps_stp0 rfl rfl (by decide) (stp_pick rfl rfl rfl) ?_; refine awps_nil ?_; refine thenQ_nil ?_; refine awp_cond rfl (fun c1 => ?_) (fun c1 => ?_)
      · try simp only [↓cqA, cqB] at c1
        refine awp_seq ?_; refine awp_region ?_; refine awps_stp0 rfl rfl (by decide) (stp_move (.inl rfl) rfl) ?_; refine awps_stp0 rfl rfl (by decide) (stp_move (.inr rfl) rfl) ?_; refine awps_nil ?_; refine thenQ_nil ?_; refine awp_ret ?_; refine thenQ_ret (?_)
        -- leaf l9T0Fl24T1T
        refine ret0 (noL hL) (.inl rfl) (resAs_tmp rfl (resAs_nil)) ?_ ?_
        · rfl
        refine ⟨?_, rfl⟩
        first
          | (rw [putF_here hu2 hp.2 (by omega), if_pos c1]; rfl)
          | (exfalso; omega)
          | (have e : putF f l = l.take k ++ [f] ++ l.drop k := by
               first
                 | (rw [putF_here hu2 hp.2 (by have e := hu.symm.trans hu2; cases e; omega), if_neg c1])
                 | exact putF_end (by omega) hp.2
             have e2 : ftDs (putF f l) = (ftDs l).take ((k : Int)).toNat ++ [ftD f] ++ (ftDs l).drop ((k : Int)).toNat := by
               rw [e]; simp only [ftDs, List.map_append, List.map_take, List.map_drop, Int.toNat_natCast, List.map_cons, List.map_nil]
             rw [e2]; rfl)
          | trace_state
      try simp only [↓cqA, cqB] at c1
      refine awp_skip ?_; refine thenQ_nil ?_; refine awp_seq ?_
      have hcf := AC_rnE 3 77 (CopyFactsU_ok 5 (l.take k) (by simp; omega) (fun x hx => hd x (List.mem_of_mem_take hx)) (fun x hx => hw x (List.mem_of_mem_take hx)))
      rw [show ftDs (l.take k) = (ftDs l).take ((k : Int)).toNat by simp [ftDs, List.map_take]] at hcf
      refine awp_drawG 11 mixed rfl rfl rfl rfl ?_; refine MGo_c0 rfl (by decide) (.run rfl (stp_move (.inl rfl) rfl)) ?_; refine MGo_c0 rfl (by decide) (.run rfl (stp_move (.inl rfl) rfl)) ?_; refine MGo_c0 rfl (by decide) (.run rfl (stp_sldH rfl sl_S_api_Fact rfl rfl (by omega) (by omega))) ?_; refine MGo_u rfl rfl (by decide) (stpU_call (avs := [_]) false rfl en_almagestref0_CopyFacts rfl rfl (hcf) (fun _ => rfl) rfl) ?_; refine MGo_c0 rfl (by decide) (.run rfl (stp_load_all rfl tf_api_Fact rfl rfl rfl rfl)) ?_
      refine MGo_c0 rfl (by decide) (.run rfl (stp_call (avs := [_]) false rfl en_almagestref0_CopyFact rfl rfl (CopyFactU_ok 5 f hfd hf) (fun _ => rfl) rfl)) ?_; refine MGo_c1 rfl (by decide) (.run rfl (stp_buildSlice 41 rfl sl_S_api_Fact zv_api_Fact rfl rfl (by decide) (by decide) (by decide) rfl rfl rfl)) ?_; refine MGo_u rfl rfl (by decide) (stpU_append1 42 ta_S_api_Fact rfl rfl rfl rfl rfl rfl rfl rfl (noL hL _) (by simp only [List.length_take]; omega) rfl) ?_
      refine MGo_c0 rfl (by decide) (.run rfl (stp_move (.inl rfl) rfl)) ?_; refine MGo_c0 rfl (by decide) (.run rfl (stp_move (.inl rfl) rfl)) ?_; refine MGo_c0 rfl (by decide) (.run rfl (stp_sldL rfl sl_S_api_Fact rfl rfl (by omega) (by omega))) ?_; refine MGo_nil ⟨rfl, rfl, ?_⟩
      refine awps_u rfl rfl (by decide) (stpU_appendd 46 ta_S_api_Fact rfl rfl rfl rfl rfl (noL hL _) (fun d hd => by have := List.mem_of_mem_drop hd; obtain ⟨x, _, rfl⟩ := List.mem_map.1 this; rfl) (by simp only [List.length_append, List.length_take, List.length_drop, List.length_cons, List.length_nil]; omega) rfl) rfl ?_; refine awps_sub (sub_freeze (l := 46) rfl (by decide) (noL hL _) rfl rfl) ?_; refine awps_stp0 rfl rfl (by decide) (stp_move (.inr rfl) rfl) ?_; refine awps_nil ?_; refine thenQ_nil ?_; refine awp_ret ?_
      -- leaf l9T0Fl24T1F
      refine ret0 (noL hL) (.inl rfl) (resAs_tmp rfl (resAs_nil)) ?_ ?_
      · rfl
      refine ⟨?_, rfl⟩
      first
        | (rw [putF_here hu2 hp.2 (by omega), if_pos c1]; rfl)
        | (exfalso; omega)
        | (have e : putF f l = l.take k ++ [f] ++ l.drop k := by
             first
               | (rw [putF_here hu2 hp.2 (by have e := hu.symm.trans hu2; cases e; omega), if_neg c1])
               | exact putF_end (by omega) hp.2
           have e2 : ftDs (putF f l) = (ftDs l).take ((k : Int)).toNat ++ [ftD f] ++ (ftDs l).drop ((k : Int)).toNat := by
             rw [e]; simp only [ftDs, List.map_append, List.map_take, List.map_drop, Int.toNat_natCast, List.map_cons, List.map_nil]
           rw [e2]; rfl)
        | trace_state
    have m24 := l24
    try simp only [↓cqA, cqB] at m24
    refine awp_drawG 10 mixed rfl rfl rfl rfl ?_; refine MGo_c0 rfl (by decide) (.run rfl (stp_move (.inl rfl) rfl)) ?_; refine MGo_c0 rfl (by decide) (.run rfl (stp_move (.inl rfl) rfl)) ?_; refine MGo_c0 rfl (by decide) (.run rfl (stp_len_dat rfl sl_S_api_Fact rfl)) ?_
    refine MGo_c0 rfl (by decide) (.run rfl (stp_binI (r := .bool false) rfl rfl rfl (congrArg (fun b => some (Value.bool b)) l24))) ?_; refine MGo_c0 rfl (by decide) (.run rfl (stp_move (.inl rfl) rfl)) ?_; refine MGo_c0 rfl (by decide) (.skip rfl rfl rfl (by decide) (by decide)) ?_; refine MGo_c0 rfl (by decide) (.skip rfl rfl rfl (by decide) (by decide)) ?_
    refine MGo_c0 rfl (by decide) (.skip rfl rfl rfl (by decide) (by decide)) ?_; refine MGo_c0 rfl (by decide) (.skip rfl rfl rfl (by decide) (by decide)) ?_; refine MGo_c0 rfl (by decide) (.skip rfl rfl rfl (by decide) (by decide)) ?_; refine MGo_nil ⟨rfl, rfl, ?_⟩; refine awps_gs rfl rfl rfl rfl (by decide) rfl (by decide) ?_; refine awps_gs rfl rfl rfl rfl (by decide) rfl (by decide) ?_; refine awps_stp0 rfl rfl (by decide) (stp_pick rfl rfl rfl) ?_; refine awps_nil ?_; refine thenQ_nil ?_; refine awp_condF rfl ?_; refine awp_skip ?_; refine thenQ_nil ?_; refine awp_seq ?_
    have hcf := AC_rnE 3 77 (CopyFactsU_ok 5 (l.take k) (by simp; omega) (fun x hx => hd x (List.mem_of_mem_take hx)) (fun x hx => hw x (List.mem_of_mem_take hx)))
    rw [show ftDs (l.take k) = (ftDs l).take ((k : Int)).toNat by simp [ftDs, List.map_take]] at hcf
    refine awp_drawG 11 mixed rfl rfl rfl rfl ?_; refine MGo_c0 rfl (by decide) (.run rfl (stp_move (.inl rfl) rfl)) ?_; refine MGo_c0 rfl (by decide) (.run rfl (stp_move (.inl rfl) rfl)) ?_; refine MGo_c0 rfl (by decide) (.run rfl (stp_sldH rfl sl_S_api_Fact rfl rfl (by omega) (by omega))) ?_; refine MGo_u rfl rfl (by decide) (stpU_call (avs := [_]) false rfl en_almagestref0_CopyFacts rfl rfl (hcf) (fun _ => rfl) rfl) ?_; refine MGo_c0 rfl (by decide) (.run rfl (stp_load_all rfl tf_api_Fact rfl rfl rfl rfl)) ?_
    refine MGo_c0 rfl (by decide) (.run rfl (stp_call (avs := [_]) false rfl en_almagestref0_CopyFact rfl rfl (CopyFactU_ok 5 f hfd hf) (fun _ => rfl) rfl)) ?_; refine MGo_c1 rfl (by decide) (.run rfl (stp_buildSlice 41 rfl sl_S_api_Fact zv_api_Fact rfl rfl (by decide) (by decide) (by decide) rfl rfl rfl)) ?_; refine MGo_u rfl rfl (by decide) (stpU_append1 42 ta_S_api_Fact rfl rfl rfl rfl rfl rfl rfl rfl (noL hL _) (by simp only [List.length_take]; omega) rfl) ?_
    refine MGo_c0 rfl (by decide) (.run rfl (stp_move (.inl rfl) rfl)) ?_; refine MGo_c0 rfl (by decide) (.run rfl (stp_move (.inl rfl) rfl)) ?_; refine MGo_c0 rfl (by decide) (.run rfl (stp_sldL rfl sl_S_api_Fact rfl rfl (by omega) (by omega))) ?_; refine MGo_nil ⟨rfl, rfl, ?_⟩
    refine awps_u rfl rfl (by decide) (stpU_appendd 46 ta_S_api_Fact rfl rfl rfl rfl rfl (noL hL _) (fun d hd => by have := List.mem_of_mem_drop hd; obtain ⟨x, _, rfl⟩ := List.mem_map.1 this; rfl) (by simp only [List.length_append, List.length_take, List.length_drop, List.length_cons, List.length_nil]; omega) rfl) rfl ?_; refine awps_sub (sub_freeze (l := 46) rfl (by decide) (noL hL _) rfl rfl) ?_; refine awps_stp0 rfl rfl (by decide) (stp_move (.inr rfl) rfl) ?_; refine awps_nil ?_; refine thenQ_nil ?_; refine awp_ret ?_
    -- leaf l9T0Fl24F
    refine ret0 (noL hL) (.inl rfl) (resAs_tmp rfl (resAs_nil)) ?_ ?_
    · rfl
    refine ⟨?_, rfl⟩
    first
      | (rw [putF_here hu2 hp.2 (by omega), if_pos c1]; rfl)
      | (exfalso; omega)
      | (have e : putF f l = l.take k ++ [f] ++ l.drop k := by
           first
             | (rw [putF_here hu2 hp.2 (by have e := hu.symm.trans hu2; cases e; omega), if_neg c1])
             | exact putF_end (by omega) hp.2
         have e2 : ftDs (putF f l) = (ftDs l).take ((k : Int)).toNat ++ [ftD f] ++ (ftDs l).drop ((k : Int)).toNat := by
           rw [e]; simp only [ftDs, List.map_append, List.map_take, List.map_drop, Int.toNat_natCast, List.map_cons, List.map_nil]
         rw [e2]; rfl)
      | trace_state
  have m9 := l9
  try simp only [↓cqA, cqB] at m9
  refine awp_drawG 10 mixed rfl rfl rfl rfl ?_; refine MGo_c0 rfl (by decide) (.run rfl (stp_move (.inl rfl) rfl)) ?_; refine MGo_c0 rfl (by decide) (.run rfl (stp_move (.inl rfl) rfl)) ?_; refine MGo_c0 rfl (by decide) (.run rfl (stp_len_dat rfl sl_S_api_Fact rfl)) ?_
  refine MGo_c0 rfl (by decide) (.run rfl (stp_binI (r := .bool false) rfl rfl rfl (congrArg (fun b => some (Value.bool b)) l9))) ?_; refine MGo_c0 rfl (by decide) (.run rfl (stp_move (.inl rfl) rfl)) ?_; refine MGo_c0 rfl (by decide) (.skip rfl rfl rfl (by decide) (by decide)) ?_; refine MGo_c0 rfl (by decide) (.skip rfl rfl rfl (by decide) (by decide)) ?_
  refine MGo_c0 rfl (by decide) (.skip rfl rfl rfl (by decide) (by decide)) ?_; refine MGo_c0 rfl (by decide) (.skip rfl rfl rfl (by decide) (by decide)) ?_; refine MGo_c0 rfl (by decide) (.skip rfl rfl rfl (by decide) (by decide)) ?_; refine MGo_nil ⟨rfl, rfl, ?_⟩; refine awps_gs rfl rfl rfl rfl (by decide) rfl (by decide) ?_; refine awps_gs rfl rfl rfl rfl (by decide) rfl (by decide) ?_
  refine awps_stp0 rfl rfl (by decide) (stp_pick rfl rfl rfl) ?_; refine awps_nil ?_; refine thenQ_nil ?_; refine awp_condF rfl ?_; refine awp_exit ?_; refine thenQ_exit (thenQ_exit (inQ_hit ?_)); refine thenQ_nil ?_; refine awp_seq ?_; refine awp_seq ?_
  rcases Bool.eq_false_or_eq_true (decide ((k : Int) < (ftDs l).length)) with l24 | l24
  · have m24 := l24
    try simp only [↓cqA, cqB] at m24
    obtain ⟨u2, hu2⟩ := get_of_lt (l := l) (k := k) (by omega)
    have hum2 := List.mem_of_getElem? hu2
    refine awp_drawG 10 mixed rfl rfl rfl rfl ?_; refine MGo_c0 rfl (by decide) (.run rfl (stp_move (.inl rfl) rfl)) ?_; refine MGo_c0 rfl (by decide) (.run rfl (stp_move (.inl rfl) rfl)) ?_; refine MGo_c0 rfl (by decide) (.run rfl (stp_len_dat rfl sl_S_api_Fact rfl)) ?_
    refine MGo_c0 rfl (by decide) (.run rfl (stp_binI (r := .bool true) rfl rfl rfl (congrArg (fun b => some (Value.bool b)) l24))) ?_; refine MGo_c0 rfl (by decide) (.run rfl (stp_move (.inl rfl) rfl)) ?_; refine MGo_c0 rfl (by decide) (.want rfl rfl rfl (by decide) (stp_move (.inl rfl) rfl)) ?_; refine MGo_c0 rfl (by decide) (.want rfl rfl rfl (by decide) (stp_move (.inl rfl) rfl)) ?_; refine MGo_c0 rfl (by decide) (.want rfl rfl rfl (by decide) (stp_indexAddr rfl sl_S_api_Fact rfl rfl (by omega) (ftDs_get hu2))) ?_
    refine MGo_c0 rfl (by decide) (.want rfl rfl rfl (by decide) (stp_load_elpa rfl tf_api_Fact rfl rfl)) ?_; refine MGo_c0 rfl (by decide) (.want rfl rfl rfl (by decide) (stp_load_all rfl tf_api_Fact rfl rfl rfl rfl)) ?_
    refine MGo_nil ⟨rfl, rfl, ?_⟩; refine awps_g0 rfl rfl rfl (by decide) rfl (by decide) (stp_call (avs := [_, _]) true rfl en_almagestref7_Order rfl rfl (rOrder_ok u2 f (hd u2 hum2) (hw u2 hum2) hf) (fun _ => rfl) rfl) ?_; refine awps_g0 rfl rfl rfl (by decide) rfl (by decide) (stp_binI rfl rfl rfl rfl) ?_; refine awps_stp0 rfl rfl (by decide) (stp_pick rfl rfl rfl) ?_; refine awps_nil ?_; refine thenQ_nil ?_; refine awp_cond rfl (fun c1 => ?_) (fun c1 => ?_)
    · try simp only [↓cqA, cqB] at c1
      refine awp_seq ?_; refine awp_region ?_; refine awps_stp0 rfl rfl (by decide) (stp_move (.inl rfl) rfl) ?_; refine awps_stp0 rfl rfl (by decide) (stp_move (.inr rfl) rfl) ?_; refine awps_nil ?_; refine thenQ_nil ?_; refine awp_ret ?_; refine thenQ_ret (?_)
      -- leaf l9Fl24T1T
      refine ret0 (noL hL) (.inl rfl) (resAs_tmp rfl (resAs_nil)) ?_ ?_
      · rfl
      refine ⟨?_, rfl⟩
      first
        | (rw [putF_here hu2 hp.2 (by omega), if_pos c1]; rfl)
        | (exfalso; omega)
        | (have e : putF f l = l.take k ++ [f] ++ l.drop k := by
             first
               | (rw [putF_here hu2 hp.2 (by have e := hu.symm.trans hu2; cases e; omega), if_neg c1])
               | exact putF_end (by omega) hp.2
           have e2 : ftDs (putF f l) = (ftDs l).take ((k : Int)).toNat ++ [ftD f] ++ (ftDs l).drop ((k : Int)).toNat := by
             rw [e]; simp only [ftDs, List.map_append, List.map_take, List.map_drop, Int.toNat_natCast, List.map_cons, List.map_nil]
           rw [e2]; rfl)
        | trace_state
    try simp only [↓cqA, cqB] at c1
    refine awp_skip ?_; refine thenQ_nil ?_; refine awp_seq ?_
    have hcf := AC_rnE 3 77 (CopyFactsU_ok 5 (l.take k) (by simp; omega) (fun x hx => hd x (List.mem_of_mem_take hx)) (fun x hx => hw x (List.mem_of_mem_take hx)))
    rw [show ftDs (l.take k) = (ftDs l).take ((k : Int)).toNat by simp [ftDs, List.map_take]] at hcf
    refine awp_drawG 11 mixed rfl rfl rfl rfl ?_; refine MGo_c0 rfl (by decide) (.run rfl (stp_move (.inl rfl) rfl)) ?_; refine MGo_c0 rfl (by decide) (.run rfl (stp_move (.inl rfl) rfl)) ?_; refine MGo_c0 rfl (by decide) (.run rfl (stp_sldH rfl sl_S_api_Fact rfl rfl (by omega) (by omega))) ?_; refine MGo_u rfl rfl (by decide) (stpU_call (avs := [_]) false rfl en_almagestref0_CopyFacts rfl rfl (hcf) (fun _ => rfl) rfl) ?_; refine MGo_c0 rfl (by decide) (.run rfl (stp_load_all rfl tf_api_Fact rfl rfl rfl rfl)) ?_
    refine MGo_c0 rfl (by decide) (.run rfl (stp_call (avs := [_]) false rfl en_almagestref0_CopyFact rfl rfl (CopyFactU_ok 5 f hfd hf) (fun _ => rfl) rfl)) ?_; refine MGo_c1 rfl (by decide) (.run rfl (stp_buildSlice 41 rfl sl_S_api_Fact zv_api_Fact rfl rfl (by decide) (by decide) (by decide) rfl rfl rfl)) ?_; refine MGo_u rfl rfl (by decide) (stpU_append1 42 ta_S_api_Fact rfl rfl rfl rfl rfl rfl rfl rfl (noL hL _) (by simp only [List.length_take]; omega) rfl) ?_
    refine MGo_c0 rfl (by decide) (.run rfl (stp_move (.inl rfl) rfl)) ?_; refine MGo_c0 rfl (by decide) (.run rfl (stp_move (.inl rfl) rfl)) ?_; refine MGo_c0 rfl (by decide) (.run rfl (stp_sldL rfl sl_S_api_Fact rfl rfl (by omega) (by omega))) ?_; refine MGo_nil ⟨rfl, rfl, ?_⟩
    refine awps_u rfl rfl (by decide) (stpU_appendd 46 ta_S_api_Fact rfl rfl rfl rfl rfl (noL hL _) (fun d hd => by have := List.mem_of_mem_drop hd; obtain ⟨x, _, rfl⟩ := List.mem_map.1 this; rfl) (by simp only [List.length_append, List.length_take, List.length_drop, List.length_cons, List.length_nil]; omega) rfl) rfl ?_; refine awps_sub (sub_freeze (l := 46) rfl (by decide) (noL hL _) rfl rfl) ?_; refine awps_stp0 rfl rfl (by decide) (stp_move (.inr rfl) rfl) ?_; refine awps_nil ?_; refine thenQ_nil ?_; refine awp_ret ?_
    -- leaf l9Fl24T1F
    refine ret0 (noL hL) (.inl rfl) (resAs_tmp rfl (resAs_nil)) ?_ ?_
    · rfl
    refine ⟨?_, rfl⟩
    first
      | (rw [putF_here hu2 hp.2 (by omega), if_pos c1]; rfl)
      | (exfalso; omega)
      | (have e : putF f l = l.take k ++ [f] ++ l.drop k := by
           first
             | (rw [putF_here hu2 hp.2 (by have e := hu.symm.trans hu2; cases e; omega), if_neg c1])
             | exact putF_end (by omega) hp.2
         have e2 : ftDs (putF f l) = (ftDs l).take ((k : Int)).toNat ++ [ftD f] ++ (ftDs l).drop ((k : Int)).toNat := by
           rw [e]; simp only [ftDs, List.map_append, List.map_take, List.map_drop, Int.toNat_natCast, List.map_cons, List.map_nil]
         rw [e2]; rfl)
      | trace_state
  have m24 := l24
  try simp only [↓cqA, cqB] at m24
  refine awp_drawG 10 mixed rfl rfl rfl rfl ?_; refine MGo_c0 rfl (by decide) (.run rfl (stp_move (.inl rfl) rfl)) ?_; refine MGo_c0 rfl (by decide) (.run rfl (stp_move (.inl rfl) rfl)) ?_; refine MGo_c0 rfl (by decide) (.run rfl (stp_len_dat rfl sl_S_api_Fact rfl)) ?_
  refine MGo_c0 rfl (by decide) (.run rfl (stp_binI (r := .bool false) rfl rfl rfl (congrArg (fun b => some (Value.bool b)) l24))) ?_; refine MGo_c0 rfl (by decide) (.run rfl (stp_move (.inl rfl) rfl)) ?_; refine MGo_c0 rfl (by decide) (.skip rfl rfl rfl (by decide) (by decide)) ?_; refine MGo_c0 rfl (by decide) (.skip rfl rfl rfl (by decide) (by decide)) ?_
  refine MGo_c0 rfl (by decide) (.skip rfl rfl rfl (by decide) (by decide)) ?_; refine MGo_c0 rfl (by decide) (.skip rfl rfl rfl (by decide) (by decide)) ?_; refine MGo_c0 rfl (by decide) (.skip rfl rfl rfl (by decide) (by decide)) ?_; refine MGo_nil ⟨rfl, rfl, ?_⟩; refine awps_gs rfl rfl rfl rfl (by decide) rfl (by decide) ?_; refine awps_gs rfl rfl rfl rfl (by decide) rfl (by decide) ?_; refine awps_stp0 rfl rfl (by decide) (stp_pick rfl rfl rfl) ?_; refine awps_nil ?_; refine thenQ_nil ?_; refine awp_condF rfl ?_; refine awp_skip ?_; refine thenQ_nil ?_; refine awp_seq ?_
  have hcf := AC_rnE 3 77 (CopyFactsU_ok 5 (l.take k) (by simp; omega) (fun x hx => hd x (List.mem_of_mem_take hx)) (fun x hx => hw x (List.mem_of_mem_take hx)))
  rw [show ftDs (l.take k) = (ftDs l).take ((k : Int)).toNat by simp [ftDs, List.map_take]] at hcf
  refine awp_drawG 11 mixed rfl rfl rfl rfl ?_; refine MGo_c0 rfl (by decide) (.run rfl (stp_move (.inl rfl) rfl)) ?_; refine MGo_c0 rfl (by decide) (.run rfl (stp_move (.inl rfl) rfl)) ?_; refine MGo_c0 rfl (by decide) (.run rfl (stp_sldH rfl sl_S_api_Fact rfl rfl (by omega) (by omega))) ?_; refine MGo_u rfl rfl (by decide) (stpU_call (avs := [_]) false rfl en_almagestref0_CopyFacts rfl rfl (hcf) (fun _ => rfl) rfl) ?_; refine MGo_c0 rfl (by decide) (.run rfl (stp_load_all rfl tf_api_Fact rfl rfl rfl rfl)) ?_
  refine MGo_c0 rfl (by decide) (.run rfl (stp_call (avs := [_]) false rfl en_almagestref0_CopyFact rfl rfl (CopyFactU_ok 5 f hfd hf) (fun _ => rfl) rfl)) ?_; refine MGo_c1 rfl (by decide) (.run rfl (stp_buildSlice 41 rfl sl_S_api_Fact zv_api_Fact rfl rfl (by decide) (by decide) (by decide) rfl rfl rfl)) ?_; refine MGo_u rfl rfl (by decide) (stpU_append1 42 ta_S_api_Fact rfl rfl rfl rfl rfl rfl rfl rfl (noL hL _) (by simp only [List.length_take]; omega) rfl) ?_
  refine MGo_c0 rfl (by decide) (.run rfl (stp_move (.inl rfl) rfl)) ?_; refine MGo_c0 rfl (by decide) (.run rfl (stp_move (.inl rfl) rfl)) ?_; refine MGo_c0 rfl (by decide) (.run rfl (stp_sldL rfl sl_S_api_Fact rfl rfl (by omega) (by omega))) ?_; refine MGo_nil ⟨rfl, rfl, ?_⟩; refine awps_u rfl rfl (by decide) (stpU_appendd 46 ta_S_api_Fact rfl rfl rfl rfl rfl (noL hL _) (fun d hd => by have := List.mem_of_mem_drop hd; obtain ⟨x, _, rfl⟩ := List.mem_map.1 this; rfl) (by simp only [List.length_append, List.length_take, List.length_drop, List.length_cons, List.length_nil]; omega) rfl) rfl ?_
  refine awps_sub (sub_freeze (l := 46) rfl (by decide) (noL hL _) rfl rfl) ?_; refine awps_stp0 rfl rfl (by decide) (stp_move (.inr rfl) rfl) ?_; refine awps_nil ?_; refine thenQ_nil ?_; refine awp_ret ?_
  -- leaf l9Fl24F
  refine ret0 (noL hL) (.inl rfl) (resAs_tmp rfl (resAs_nil)) ?_ ?_
  · rfl
  refine ⟨?_, rfl⟩
  first
    | (rw [putF_here hu2 hp.2 (by omega), if_pos c1]; rfl)
    | (exfalso; omega)
    | (have e : putF f l = l.take k ++ [f] ++ l.drop k := by
         first
           | (rw [putF_here hu2 hp.2 (by have e := hu.symm.trans hu2; cases e; omega), if_neg c1])
           | exact putF_end (by omega) hp.2
       have e2 : ftDs (putF f l) = (ftDs l).take ((k : Int)).toNat ++ [ftD f] ++ (ftDs l).drop ((k : Int)).toNat := by
         rw [e]; simp only [ftDs, List.map_append, List.map_take, List.map_drop, Int.toNat_natCast, List.map_cons, List.map_nil]
       rw [e2]; rfl)
    | trace_state
theorem putAll_law : ∀ (l acc : List Ft), (∀ x ∈ acc ++ l, factB x = true) → (acc ++ l).Nodup → acc.Pairwise (fun a b => cmpF a b ≤ 0) → (l.foldl (fun x f => putF f x) acc).Perm (acc ++ l) ∧ (l.foldl (fun x f => putF f x) acc).Pairwise (fun a b => cmpF a b ≤ 0)
  | [], acc, _, _, h => by simpa using h
  | f :: l, acc, hm, hn, hs => by
    have hf := hm f (by simp)
    have hd : ∀ x ∈ acc, factB x = true ∧ x ≠ f := fun x hx => ⟨hm x (by simp [hx]), fun e => by
      subst e
      exact (List.nodup_append.1 hn).2.2 x hx x (by simp) rfl⟩
    obtain ⟨p1, p2⟩ := putF_law f hf acc hd hs
    have hp : (putF f acc ++ l).Perm (acc ++ f :: l) := (p1.append_right l).trans (by simpa using (List.perm_middle (a := f) (l₁ := acc) (l₂ := l)).symm)
    obtain ⟨q1, q2⟩ := putAll_law l (putF f acc) (fun x hx => hm x (hp.mem_iff.1 hx)) (hp.nodup_iff.2 hn) p2
    exact ⟨q1.trans hp, q2⟩
theorem putAll_srt {l : List Kp} (h : listB l = true) : (l.map Kp.f).foldl (fun x f => putF f x) [] = srtF (l.map Kp.f) := by
  obtain ⟨_, hm⟩ := listB_may h
  have hm2 : ∀ x ∈ l.map Kp.f, factB x = true := fun x hx => by obtain ⟨k, hk, rfl⟩ := List.mem_map.1 hx; exact hm k hk
  obtain ⟨p1, p2⟩ := putAll_law (l.map Kp.f) [] (by simpa using hm2) (by simpa using listB_nd h) List.Pairwise.nil
  refine srtF_uniq (fun a ha => (fact_parts (hm2 a ha)).2.2) (by simpa using p1) (p2.imp fun {x y} h => ?_)
  have := TP.ft.anti x y; omega
theorem rSorted7_ok (l : List Kp) (hw : ∀ k ∈ l, k.wf) (h : listB l = true) : PF 47 [.dat false 7 (kpDs l)] (.dat false 6 (ftDs (srtF (l.map Kp.f)))) := by
  have hlen := kpDs_length l
  obtain ⟨hl3, hlm⟩ := listB_may h
  have hsub : ∀ k, ((l.take k).map Kp.f).foldl (fun x f => putF f x) [] = [] ∨ True := fun _ => .inr trivial
  have hlaw := fun k => putAll_law ((l.take k).map Kp.f) [] (fun x hx => by
    obtain ⟨q, hq, rfl⟩ := List.mem_map.1 (show x ∈ (l.take k).map Kp.f from hx)
    exact hlm q (List.mem_of_mem_take hq)) (by
    have := listB_nd h
    simpa using this.sublist ((List.take_sublist k l).map _)) List.Pairwise.nil
  have hmem : ∀ k, ∀ x ∈ ((l.take k).map Kp.f).foldl (fun x f => putF f x) [], x ∈ l.map Kp.f := fun k x hx => by
    have := (hlaw k).1.mem_iff.1 hx
    obtain ⟨q, hq, rfl⟩ := List.mem_map.1 (show x ∈ (l.take k).map Kp.f from this)
    exact List.mem_map.2 ⟨q, List.mem_of_mem_take hq, rfl⟩
  have hln : ∀ k, (((l.take k).map Kp.f).foldl (fun x f => putF f x) []).length ≤ 300 := fun k => by
    rw [(hlaw k).1.length_eq]; simp; omega
  refine AC_intro Tryz.func47 rfl Tryz.ntmps47 (Nat.le_of_ble_eq_true rfl) fun c hL hQ hDD => ?_; refine awp_seq ?_; refine awp_region ?_; refine awps_stp0 rfl rfl (by decide) (stp_move (.inr rfl) rfl) ?_; refine awps_nil ?_; refine thenQ_nil ?_; refine awp_seq ?_; refine awp_region ?_; refine awps_stp0 rfl rfl (by decide) (stp_move (.inr rfl) rfl) ?_; refine awps_nil ?_; refine thenQ_nil ?_; refine awp_seq ?_; refine awp_seq ?_; refine awp_region ?_; refine awps_stp0 rfl rfl (by decide) (stp_move (.inr rfl) rfl) ?_; refine awps_nil ?_; refine thenQ_nil ?_; refine awp_block ?_
  refine awp_while (l.length) (fun k => k ≤ l.length) (fun k => ⟨[(0, .dat false 7 (kpDs l)), (3, .dat false 6 (ftDs (((l.take k).map Kp.f).foldl (fun x f => putF f x) []))), (4, iv (k : Int))], []⟩) (by omega) ?_ (fun k hk hp => ?_)
  · exact Sub.trans (sub_nil_dat (t := 3) 6 false rfl) (sub_re (SubT.cons (lk_eq rfl (by first | rfl | simp)) (SubT.cons (lk_eq rfl (by first | rfl | simp)) (SubT.cons (lk_eq rfl (by first | rfl | simp)) (SubT.nil)))) (SubO.nil) rfl rfl (noL' (noL hL) _))
  refine awp_seq ?_; refine awp_seq ?_; refine awp_region ?_; refine awps_stp0 rfl rfl (by decide) (stp_move (.inl rfl) rfl) ?_; refine awps_stp0 rfl rfl (by decide) (stp_move (.inl rfl) rfl) ?_; refine awps_stp0 rfl rfl (by decide) (stp_len_dat rfl sl_S_api_Kept rfl) ?_; refine awps_stp0 rfl rfl (by decide) (stp_binI rfl rfl rfl rfl) ?_; refine awps_nil ?_; refine thenQ_nil ?_; refine awp_cond rfl (fun c0 => ?_) (fun c0 => ?_)
  · try simp only [↓cqA, cqB] at c0
    obtain ⟨u, hu⟩ := get_of_lt (l := l) (k := k) (by omega)
    have hum := List.mem_of_getElem? hu
    have hk1 := hmem k
    have hk2 := hln k
    refine awp_skip ?_; refine thenQ_nil ?_; refine awp_seq ?_; refine awp_block ?_; refine awp_region ?_; refine awps_stp0 rfl rfl (by decide) (stp_move (.inl rfl) rfl) ?_; refine awps_stp0 rfl rfl (by decide) (stp_move (.inl rfl) rfl) ?_; refine awps_stp0 rfl rfl (by decide) (stp_move (.inl rfl) rfl) ?_; refine awps_stp0 rfl rfl (by decide) (stp_indexAddr rfl sl_S_api_Kept rfl rfl (by omega) (kpDs_get hu)) ?_; refine awps_stp0 rfl rfl (by decide) (stp_fieldAddr_elp rfl fo_api_Kept_1 rfl) ?_; refine awps_stp0 rfl rfl (by decide) (stp_load_elpa rfl tf_api_Fact rfl rfl) ?_
    refine awps_call (avs := [_, _]) false rfl rfl rfl (by decide) en_almagestref7_Put rfl rfl (Put7_ok (((l.take k).map Kp.f).foldl (fun x f => putF f x) []) (by omega) (fun x hx => by obtain ⟨q, hq, rfl⟩ := List.mem_map.1 (hk1 x hx); exact (hw q hq).2) (fun x hx => by obtain ⟨q, hq, rfl⟩ := List.mem_map.1 (hk1 x hx); exact hlm q hq) u.f (hw u hum).2 (hlm u hum)) rfl rfl ?_
    refine awps_stp0 rfl rfl (by decide) (stp_move (.inr rfl) rfl) ?_; refine awps_nil ?_; refine inQ_nil ?_; refine thenQ_nil ?_; refine awp_region ?_; refine awps_stp0 rfl rfl (by decide) (stp_move (.inl rfl) rfl) ?_; refine awps_stp0 rfl rfl (by decide) (stp_add rfl rfl rfl (by omega)) ?_; refine awps_stp0 rfl rfl (by decide) (stp_move (.inr rfl) rfl) ?_; refine awps_nil ?_; refine thenQ_nil ?_; refine ⟨?_, ?_, ?_⟩
    · skip
      omega
    · skip
      omega
    exact sub_re (SubT.cons (lk_eq rfl (by first | rfl | simp)) (SubT.cons (lk_eq rfl (by rw [take_snoc hu, List.map_append, List.foldl_append]; rfl)) (SubT.cons (lk_eq rfl (by first | rfl | simp)) (SubT.nil)))) (SubO.nil) rfl rfl (noL' (noL hL) _)
  try simp only [↓cqA, cqB] at c0
  refine awp_exit ?_; refine thenQ_exit (thenQ_exit (inQ_hit ?_)); refine thenQ_nil ?_; refine awp_seq ?_; refine awp_region ?_; refine awps_stp0 rfl rfl (by decide) (stp_move (.inl rfl) rfl) ?_; refine awps_stp0 rfl rfl (by decide) (stp_move (.inr rfl) rfl) ?_; refine awps_nil ?_; refine thenQ_nil ?_; refine awp_ret ?_
  -- leaf 0F
  refine ret0 (noL hL) (.inl rfl) (resAs_tmp rfl (resAs_nil)) ?_ ?_
  · rfl
  exact ⟨by rw [List.take_of_length_le (by omega), putAll_srt h]; rfl, rfl⟩
end Go.Proofs.YtdecgkhdbfgldaaGreat

set_option linter.unusedVariables false
set_option linter.unusedSimpArgs false
set_option maxRecDepth 8000
namespace Go.Proofs.YtdecgkhdbfgldaaGreat
open Go
theorem filter_snoc {α : Type} (p : α → Bool) {l : List α} {k : Nat} {u : α} (hu : l[k]? = some u) : (l.take (k + 1)).filter p = (l.take k).filter p ++ (if p u = true then [u] else []) := by
  rw [take_snoc hu, List.filter_append]
  congr 1
  by_cases h : p u = true <;> simp [h]
theorem filter_take_le {α : Type} (p : α → Bool) (l : List α) (k : Nat) : ((l.take k).filter p).length ≤ k := Nat.le_trans (List.length_filter_le _ _) (by simp; omega)
theorem arr_split {α β : Type} {g : α → β} {es : List α} {A : List (Option β)} (h : ∀ (q : Nat) (x : α), es[q]? = some x → A[q]? = some (some (g x))) : A = (es.map g).map some ++ A.drop es.length := by
  apply List.ext_getElem?
  intro q
  by_cases hq : q < es.length
  · rw [List.getElem?_append_left (by simpa using hq)]
    simp only [List.getElem?_map]
    rw [h q es[q] (List.getElem?_eq_getElem hq), List.getElem?_eq_getElem hq]
    rfl
  · rw [List.getElem?_append_right (by simp; omega), List.getElem?_drop]
    simp only [List.length_map]
    congr 1; omega
theorem arr_start {α β : Type} (g : α → β) (es : List α) (junk : List (Option β)) : ∀ (q : Nat) (x : α), es[q]? = some x → ((es.map g).map some ++ junk)[q]? = some (some (g x)) := fun q x h => by
  have hq := (List.getElem?_eq_some_iff.1 h).1
  rw [List.getElem?_append_left (by simpa using hq)]
  simp [h]
end Go.Proofs.YtdecgkhdbfgldaaGreat
