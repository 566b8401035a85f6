/- Part 14 of the proof: Jh. -/
import Derived.Test.YtdecgkhdbfgldaaGreatE13
set_option linter.unusedVariables false
set_option linter.unusedSimpArgs false
set_option maxRecDepth 8000
namespace Go.Proofs.YtdecgkhdbfgldaaGreat
open Go
theorem lastS_nil {l : List Kp} (h : l.length = 0) : lastS l = -1 := by
  have : l = [] := List.eq_nil_of_length_eq_zero h
  subst this; rfl
theorem addL_dle {l : List Kp} {n : Int} {f : Ft} : ∀ b ∈ addL l n f, dle 5 b.f.t := fun b hb => by
  rw [addL] at hb
  split at hb
  · rename_i h
    obtain ⟨hl, hf, _⟩ := addE_zero h
    rcases List.mem_append.1 hb with h2 | h2
    · exact (fact_parts ((listB_may hl).2 b h2)).2.2
    · rw [List.mem_singleton.1 h2]; exact (fact_parts hf).2.2
  · cases hb
theorem addL_len {l : List Kp} {n : Int} {f : Ft} : (addL l n f).length ≤ 300 := by
  rw [addL]
  split
  · rename_i h
    obtain ⟨_, _, _, _, _, _, h4⟩ := addE_zero h
    simp; omega
  · simp
theorem addL_wf2 {l : List Kp} (hw : ∀ k ∈ l, k.wf) {n : Int} (hn : i64 n) {f : Ft} (hf : f.wf) : ∀ k ∈ addL l n f, k.wf := fun k hk => by
  rw [addL] at hk
  split at hk
  · rcases List.mem_append.1 hk with h | h
    · exact hw k h
    · rw [List.mem_singleton.1 h]; exact ⟨hn, hf⟩
  · cases hk
theorem someL_dle {l : List Kp} {p : Ft → Bool} : ∀ b ∈ someL l p, dle 5 b.f.t := fun b hb => by
  rw [someL] at hb
  split at hb
  · rename_i h
    exact (fact_parts ((listB_may h).2 b (List.mem_filter.1 hb).1)).2.2
  · cases hb
theorem someL_wf {l : List Kp} (hw : ∀ k ∈ l, k.wf) {p : Ft → Bool} : ∀ k ∈ someL l p, k.wf := fun k hk => by
  rw [someL] at hk
  split at hk
  · exact hw k (List.mem_filter.1 hk).1
  · cases hk
theorem someL_len {l : List Kp} {p : Ft → Bool} : (someL l p).length ≤ 300 := by
  rw [someL]
  split
  · rename_i h
    have := (listB_may h).1
    have h2 := List.length_filter_le (fun k : Kp => p k.f) l
    omega
  · simp
theorem sortedL_fact {l : List Kp} : ∀ f ∈ sortedL l, factB f = true := fun f hf => by
  rw [sortedL] at hf
  split at hf
  · rename_i h
    obtain ⟨k, hk, rfl⟩ := List.mem_map.1 ((srtF_perm _).mem_iff.1 hf)
    exact (listB_may h).2 k hk
  · cases hf
theorem sortedL_wf {l : List Kp} (hw : ∀ k ∈ l, k.wf) : ∀ f ∈ sortedL l, f.wf := fun f hf => by
  rw [sortedL] at hf
  split at hf
  · obtain ⟨k, hk, rfl⟩ := List.mem_map.1 ((srtF_perm _).mem_iff.1 hf)
    exact (hw k hk).2
  · cases hf
theorem sortedL_len {l : List Kp} : (sortedL l).length ≤ 300 := by
  rw [sortedL]
  split
  · rename_i h
    have := (listB_may h).1
    rw [(srtF_perm _).length_eq, List.length_map]; exact this
  · simp
theorem immDs_ints (l : List Int) : immDs (inDs l) = true := by
  rw [immDs, List.all_eq_true]
  intro d hd
  obtain ⟨x, _, rfl⟩ := List.mem_map.1 hd
  rfl
theorem wrap_i64 (n : Int) : i64 (IntKind.i64.wrap n) := by
  simp only [i64, IntKind.wrap, IntKind.signed, IntKind.bits]
  simp
  omega
def nsL (l : List Kp) (Z : List Int) : List Int := [IntKind.i64.wrap (lastS l + 1), lastS l, 1073741824, 1073741825] ++ Z
theorem nsL_len (l : List Kp) (Z : List Int) : (inDs (nsL l Z)).length = Z.length + 4 := by rw [inDs_length, nsL]; simp
theorem nsL_i64 {l : List Kp} (hw : ∀ k ∈ l, k.wf) {Z : List Int} (hz : ∀ n ∈ Z, i64 n) : ∀ n ∈ nsL l Z, i64 n := fun n hn => by
  simp only [nsL, List.mem_append, List.mem_cons, List.not_mem_nil, or_false] at hn
  rcases hn with (rfl | rfl | rfl | rfl) | hn
  · exact wrap_i64 _
  · rw [lastS]
    cases h : l[l.length - 1]? with
    | none => simp [i64]
    | some x => exact (hw x (List.mem_of_getElem? h)).1
  · simp [i64]
  · simp [i64]
  · exact hz n hn
theorem addC_iff {l : List Kp} {n : Int} {f : Ft} : addC l n f = true ↔ listB l = true ∧ factB f = true ∧ 0 ≤ n ∧ n ≤ 1073741824 ∧ lastS l < n := by
  simp only [addC, Bool.and_eq_true, Bool.or_eq_true, decide_eq_true_eq]
  constructor
  · rintro ⟨⟨⟨⟨h1, h2⟩, h3⟩, h4⟩, h5⟩
    refine ⟨h1, h2, h3, h4, ?_⟩
    rcases h5 with h5 | h5
    · rw [lastS_nil h5]; omega
    · exact h5
  · rintro ⟨h1, h2, h3, h4, h5⟩
    exact ⟨⟨⟨⟨h1, h2⟩, h3⟩, h4⟩, .inr h5⟩
theorem add_bad {l : List Kp} {n : Int} {f : Ft} (h : ¬ (listB l = true ∧ factB f = true ∧ 0 ≤ n ∧ n ≤ 1073741824 ∧ lastS l < n)) : addE l n f = 1 ∧ addL l n f = [] := by
  have hc : addC l n f = false := by
    cases hc : addC l n f with
    | false => rfl
    | true => exact absurd (addC_iff.1 hc) h
  have hE : addE l n f = 1 := by rw [addE, if_pos hc]
  exact ⟨hE, by rw [addL, hE]; rfl⟩
theorem add_there {l : List Kp} {n : Int} {f : Ft} (h : addC l n f = true) (h2 : 0 ≤ atN f l) : addE l n f = 4 ∧ addL l n f = [] := by
  have hE : addE l n f = 4 := by rw [addE, if_neg (by simp [h]), if_pos h2]
  exact ⟨hE, by rw [addL, hE]; rfl⟩
theorem add_full {l : List Kp} {n : Int} {f : Ft} (h : addC l n f = true) (h2 : ¬ 0 ≤ atN f l) (h3 : 300 ≤ l.length) : addE l n f = 2 ∧ addL l n f = [] := by
  have hE : addE l n f = 2 := by rw [addE, if_neg (by simp [h]), if_neg h2, if_pos h3]
  exact ⟨hE, by rw [addL, hE]; rfl⟩
theorem add_good {l : List Kp} {n : Int} {f : Ft} (h : addC l n f = true) (h2 : ¬ 0 ≤ atN f l) (h3 : ¬ 300 ≤ l.length) : addE l n f = 0 ∧ addL l n f = l ++ [⟨n, f⟩] := by
  have hE : addE l n f = 0 := by rw [addE, if_neg (by simp [h]), if_neg h2, if_neg h3]
  exact ⟨hE, by rw [addL, if_pos hE]⟩
theorem shO_boxes {l m : Nat} {ds es : List D} {O' : List (Nat × Ob)} (h : ShO [(l, .box (lift false ds)), (m, .box (lift false es))] O') : O' = [(l, .box (lift false ds)), (m, .box (lift false es))] := by
  simp only [ShO, ShOb] at h
  obtain ⟨_, _, rfl, ⟨cs1, rfl, h1⟩, _, _, rfl, ⟨cs2, rfl, h2⟩, rfl⟩ := h
  rw [shL_false ds cs1 h1, shL_false es cs2 h2]
set_option maxHeartbeats 4000000 in
theorem FactsKeep_ok (p : Ask9) (hpw : p.wf) : PF 12 [.agg (lift false (a9D p))] (bv true) := by
  obtain ⟨l, F, Z⟩ := p
  obtain ⟨⟨hlL, hwL⟩, ⟨hlF, hwF⟩, hlZ, hwZ⟩ := id hpw
  have hlen := kpDs_length l
  have hlen2 : (kpDs (Ask9.mk l F Z).L).length = l.length := hlen
  have hlf := ftDs_length F
  have hlf2 : (ftDs (Ask9.mk l F Z).F).length = F.length := hlf
  have hlz := inDs_length Z
  have hlz2 : (inDs (Ask9.mk l F Z).N).length = Z.length := hlz
  simp only [lenOk] at hlL hlF hlZ
  refine AC_intro Tryz.func12 rfl Tryz.ntmps12 (Nat.le_of_ble_eq_true rfl) fun c hL hQ hDD => ?_; refine awp_seq ?_; refine awp_region ?_; refine awps_stp1 rfl rfl (by decide) (stp_box 1 rfl rfl rfl) rfl ?_; refine awps_stp0 rfl rfl (by decide) (stp_move (.inr rfl) rfl) ?_; refine awps_nil ?_; refine thenQ_nil ?_; refine awp_seq ?_; refine awp_seq ?_; refine awp_region ?_; refine awps_stp0 rfl rfl (by decide) (stp_load_all rfl tf_almagestlaw9_Ask rfl rfl rfl rfl) ?_
  refine awps_call (avs := [_]) true rfl rfl rfl (by decide) en_almagestlaw9_Heavy rfl rfl (Heavy9_ok _ (by assumption)) rfl rfl ?_; refine awps_nil ?_; refine thenQ_nil ?_; refine awp_cond rfl (fun c0 => ?_) (fun c0 => ?_)
  · try simp only [↓cqA, cqB] at c0
    refine awp_seq ?_; refine awp_region ?_; refine awps_stp0 rfl rfl (by decide) (stp_move (.inr rfl) rfl) ?_; refine awps_nil ?_; refine thenQ_nil ?_; refine awp_ret ?_; refine thenQ_ret (?_)
    -- leaf 0T
    refine ret0 (noL hL) (.inl rfl) (resAs_tmp rfl (resAs_nil)) ?_ ?_
    · rfl
    first
    | exact ⟨rfl, rfl⟩
    | exact absurd hsb (by assumption)
    | exact absurd hmb (by assumption)
    | exact absurd trivial (by assumption)
    | exact Bool.noConfusion (show true = false by assumption)
    | trace_state
  try simp only [↓cqA, cqB] at c0
  obtain ⟨hv1, hv2, hv3, hv4⟩ := heavy9_no hpw c0
  simp only at hv1 hv2 hv3 hv4
  have hsb : (sortedE l == 0) = listB l := by rw [sortedE]; cases listB l <;> rfl
  refine awp_skip ?_; refine thenQ_nil ?_; refine awp_seq ?_; refine awp_region ?_; refine awps_stp0 rfl rfl (by decide) (stp_fieldAddr rfl fo_almagestlaw9_Ask_0 rfl) ?_; refine awps_stp0 rfl rfl (by decide) (stp_load rfl tf_S_api_Kept rfl rfl rfl rfl rfl) ?_
  refine awps_u rfl rfl (by decide) (stpU_call (avs := [_]) true rfl en_almagestref0_CopyKepts rfl rfl (AC_rnE 3 377 (CopyKepts_ok 30 l (by omega) hv4 hwL)) (fun _ => rfl) rfl) rfl ?_; refine awps_stp0 rfl rfl (by decide) (stp_move (.inr rfl) rfl) ?_; refine awps_nil ?_; refine thenQ_nil ?_; refine awp_seq ?_; refine awp_sub (sub_freeze (l := 377) rfl (by decide) (noL hL _) rfl rfl) ?_; refine awp_sub (sub_untag hQ) ?_; refine awp_region ?_; refine awps_stp0 rfl rfl (by decide) (stp_fieldAddr rfl fo_almagestlaw9_Ask_0 rfl) ?_
  refine awps_stp0 rfl rfl (by decide) (stp_load rfl tf_S_api_Kept rfl rfl rfl rfl rfl) ?_; refine awps_call (avs := [_]) true rfl rfl rfl (by decide) en_almagestref7_Facts rfl rfl (rFacts_ok l (by omega) hwL) rfl rfl ?_; refine awps_stp0 rfl rfl (by decide) (stp_move (.inr rfl) rfl) ?_; refine awps_nil ?_; refine thenQ_nil ?_; refine awp_seq ?_; refine awp_region ?_; refine awps_stp0 rfl rfl (by decide) (stp_move (.inl rfl) rfl) ?_
  refine awps_call (avs := [_]) true rfl rfl rfl (by decide) en_facts_Sorted rfl rfl (factsSorted_ok l hwL) rfl rfl ?_; refine awps_stp0 rfl rfl (by decide) (stp_move (.inl rfl) rfl) ?_; refine awps_stp0 rfl rfl (by decide) (stp_extract rfl rfl rfl) ?_; refine awps_stp0 rfl rfl (by decide) (stp_extract rfl rfl rfl) ?_; refine awps_stp0 rfl rfl (by decide) (stp_move (.inr rfl) rfl) ?_
  refine awps_stp0 rfl rfl (by decide) (stp_move (.inr rfl) rfl) ?_; refine awps_nil ?_; refine thenQ_nil ?_; refine awp_seq ?_; refine awp_region ?_; refine awps_stp0 rfl rfl (by decide) (stp_move (.inr rfl) rfl) ?_; refine awps_nil ?_; refine thenQ_nil ?_; refine awp_seq ?_; refine awp_region ?_; refine awps_stp0 rfl rfl (by decide) (stp_move (.inr rfl) rfl) ?_; refine awps_nil ?_
  refine thenQ_nil ?_; refine awp_cut ⟨[(1, .ptr 1 0), (3, .dat false 7 (kpDs l)), (4, bv (listB l)), (5, .dat true 6 (ftDs (sortedL l))), (6, iv (sortedE l)), (7, iv (sortedE l)), (8, .dat false 6 (ftDs (sortedL l)))], [(1, .box (lift false (a9D ⟨l, F, Z⟩)))]⟩ ?_ ?_
  · skip
    refine awp_seq ?_; refine awp_sub (sub_nil_dat (t := 8) 6 false rfl) ?_; refine awp_region ?_; refine awps_stp0 rfl rfl (by decide) (stp_move (.inl rfl) rfl) ?_; refine awps_nil ?_; refine thenQ_nil ?_; refine awp_cond rfl (fun c1 => ?_) (fun c1 => ?_)
    · try simp only [↓cqA, cqB] at c1
      obtain ⟨hl3, hlm⟩ := listB_may c1
      have hsE : sortedE l = 0 := by rw [sortedE, if_pos c1]
      have hsL : sortedL l = srtF (l.map Kp.f) := by rw [sortedL, if_pos c1]
      refine awp_region ?_; refine awps_stp0 rfl rfl (by decide) (stp_fieldAddr rfl fo_almagestlaw9_Ask_0 rfl) ?_; refine awps_stp0 rfl rfl (by decide) (stp_load rfl tf_S_api_Kept rfl rfl rfl rfl rfl) ?_; refine awps_call (avs := [_]) false rfl rfl rfl (by decide) en_almagestref7_Sorted rfl rfl (rSorted7_ok l hwL c1) rfl rfl ?_; refine awps_stp0 rfl rfl (by decide) (stp_move (.inr rfl) rfl) ?_; refine awps_stp0 rfl rfl (by decide) (stp_move (.inr rfl) rfl) ?_; refine awps_nil ?_
      exact thenQ_cut (sub_re (SubT.cons (lk_eq rfl (by first | rfl | simp)) (SubT.cons (lk_eq rfl (by first | rfl | simp)) (SubT.cons (lk_eq rfl (by first | rfl | simp)) (SubT.cons (lk_eq rfl (by first | rfl | simp)) (SubT.cons (lk_eq rfl (by first | rfl | simp)) (SubT.cons (lk_eq rfl (by first | rfl | (rw [hsE]; try rfl))) (SubT.cons (lk_eq rfl (by first | rfl | (rw [hsL]; try rfl))) (SubT.nil)))))))) (SubO.cons (ok_eq rfl (by rfl)) (SubO.nil)) rfl rfl (noL' (noL hL) _))
    try simp only [↓cqA, cqB] at c1
    have hsE : sortedE l = 1 := by rw [sortedE, if_neg (by simp [c1])]
    have hsL : sortedL l = [] := by rw [sortedL, if_neg (by simp [c1])]
    refine awp_skip ?_
    exact thenQ_cut (sub_re (SubT.cons (lk_eq rfl (by first | rfl | simp)) (SubT.cons (lk_eq rfl (by first | rfl | simp)) (SubT.cons (lk_eq rfl (by first | rfl | simp)) (SubT.cons (lk_eq rfl (by first | rfl | simp)) (SubT.cons (lk_eq rfl (by first | rfl | simp)) (SubT.cons (lk_eq rfl (by first | rfl | (rw [hsE]; try rfl))) (SubT.cons (lk_eq rfl (by first | rfl | (rw [hsL]; try rfl))) (SubT.nil)))))))) (SubO.cons (ok_eq rfl (by rfl)) (SubO.nil)) rfl rfl (noL' (noL hL) _))
  refine awp_seq ?_; refine awp_seq ?_; refine awp_region ?_; refine awps_stp0 rfl rfl (by decide) (stp_move (.inl rfl) rfl) ?_; refine awps_call (avs := [_]) true rfl rfl rfl (by decide) en_facts_Check rfl rfl (factsCheck_ok l hwL) rfl rfl ?_; refine awps_call (avs := [_]) true rfl rfl rfl (by decide) en_almagestlaw9_num rfl rfl (num9_ok _) rfl rfl ?_
  refine awps_stp0 rfl rfl (by decide) (stp_binI rfl rfl rfl rfl) ?_; refine awps_stp0 rfl rfl (by decide) (stp_move (.inl rfl) rfl) ?_; refine awps_stp0 rfl rfl (by decide) (stp_neB rfl ul_bool rfl rfl) ?_; refine awps_stp0 rfl rfl (by decide) (stp_move (.inl rfl) rfl) ?_; refine awps_split 54 rfl (fun g54 => ?_) (fun g54 => ?_)
  · try simp only [↓cqA, cqB] at g54
    refine awps_gs rfl rfl rfl rfl (by decide) rfl (by decide) ?_; refine awps_gs rfl rfl rfl rfl (by decide) rfl (by decide) ?_; refine awps_gs rfl rfl rfl rfl (by decide) rfl (by decide) ?_; refine awps_gs rfl rfl rfl rfl (by decide) rfl (by decide) ?_; refine awps_stp0 rfl rfl (by decide) (stp_pick rfl rfl rfl) ?_; refine awps_stp0 rfl rfl (by decide) (stp_move (.inl rfl) rfl) ?_
    refine awps_gs rfl rfl rfl rfl (by decide) rfl (by decide) ?_; refine awps_gs rfl rfl rfl rfl (by decide) rfl (by decide) ?_; refine awps_gs rfl rfl rfl rfl (by decide) rfl (by decide) ?_; refine awps_gs rfl rfl rfl rfl (by decide) rfl (by decide) ?_; refine awps_stp0 rfl rfl (by decide) (stp_pick rfl rfl rfl) ?_; refine awps_nil ?_; refine thenQ_nil ?_; refine awp_condT rfl ?_; refine awp_seq ?_; refine awp_region ?_; refine awps_stp0 rfl rfl (by decide) (stp_move (.inr rfl) rfl) ?_; refine awps_nil ?_; refine thenQ_nil ?_; refine awp_ret ?_; refine thenQ_ret (?_)
    -- leaf 0Fg54T
    refine ret0 (noL hL) (.inl rfl) (resAs_tmp rfl (resAs_nil)) ?_ ?_
    · rfl
    first
    | exact ⟨rfl, rfl⟩
    | exact absurd hsb (by assumption)
    | exact absurd hmb (by assumption)
    | exact absurd trivial (by assumption)
    | exact Bool.noConfusion (show true = false by assumption)
    | trace_state
  try simp only [↓cqA, cqB] at g54
  refine awps_g0 rfl rfl rfl (by decide) rfl (by decide) (stp_move (.inl rfl) rfl) ?_; refine awps_g0 rfl rfl rfl (by decide) rfl (by decide) (stp_call (avs := [_]) true rfl en_almagestlaw9_num rfl rfl (num9_ok _) (fun _ => rfl) rfl) ?_; refine awps_g0 rfl rfl rfl (by decide) rfl (by decide) (stp_move (.inl rfl) rfl) ?_; refine awps_g0 rfl rfl rfl (by decide) rfl (by decide) (stp_binI rfl rfl rfl rfl) ?_; refine awps_stp0 rfl rfl (by decide) (stp_pick rfl rfl rfl) ?_; refine awps_stp0 rfl rfl (by decide) (stp_move (.inl rfl) rfl) ?_; refine awps_split 60 rfl (fun g60 => ?_) (fun g60 => ?_)
  · try simp only [↓cqA, cqB] at g60
    refine awps_gs rfl rfl rfl rfl (by decide) rfl (by decide) ?_; refine awps_gs rfl rfl rfl rfl (by decide) rfl (by decide) ?_; refine awps_gs rfl rfl rfl rfl (by decide) rfl (by decide) ?_; refine awps_gs rfl rfl rfl rfl (by decide) rfl (by decide) ?_; refine awps_stp0 rfl rfl (by decide) (stp_pick rfl rfl rfl) ?_; refine awps_nil ?_; refine thenQ_nil ?_; refine awp_condT rfl ?_; refine awp_seq ?_; refine awp_region ?_; refine awps_stp0 rfl rfl (by decide) (stp_move (.inr rfl) rfl) ?_; refine awps_nil ?_; refine thenQ_nil ?_; refine awp_ret ?_; refine thenQ_ret (?_)
    -- leaf 0Fg54Fg60T
    refine ret0 (noL hL) (.inl rfl) (resAs_tmp rfl (resAs_nil)) ?_ ?_
    · rfl
    first
    | exact ⟨rfl, rfl⟩
    | exact absurd hsb (by assumption)
    | exact absurd hmb (by assumption)
    | exact absurd trivial (by assumption)
    | exact Bool.noConfusion (show true = false by assumption)
    | trace_state
  try simp only [↓cqA, cqB] at g60
  refine awps_g0 rfl rfl rfl (by decide) rfl (by decide) (stp_move (.inl rfl) rfl) ?_; refine awps_g0 rfl rfl rfl (by decide) rfl (by decide) (stp_move (.inl rfl) rfl) ?_; refine awps_g0 rfl rfl rfl (by decide) rfl (by decide) (stp_call (avs := [_, _]) true rfl en_almagestref0_EqFacts rfl rfl (EqFactsSelf_ok 5 (sortedL l) (fun u hu => (fact_parts (sortedL_fact u hu)).2.2) (sortedL_wf hwL) (by have := sortedL_len (l := l); omega)) (fun _ => rfl) rfl) ?_; refine awps_g0 rfl rfl rfl (by decide) rfl (by decide) (stp_not rfl rfl) ?_
  refine awps_stp0 rfl rfl (by decide) (stp_pick rfl rfl rfl) ?_; refine awps_nil ?_; refine thenQ_nil ?_; refine awp_cond rfl (fun c2 => ?_) (fun c2 => ?_)
  · try simp only [↓cqA, cqB] at c2
    refine awp_seq ?_; refine awp_region ?_; refine awps_stp0 rfl rfl (by decide) (stp_move (.inr rfl) rfl) ?_; refine awps_nil ?_; refine thenQ_nil ?_; refine awp_ret ?_; refine thenQ_ret (?_)
    -- leaf 0Fg54Fg60F2T
    refine ret0 (noL hL) (.inl rfl) (resAs_tmp rfl (resAs_nil)) ?_ ?_
    · rfl
    first
    | exact ⟨rfl, rfl⟩
    | exact absurd hsb (by assumption)
    | exact absurd hmb (by assumption)
    | exact absurd trivial (by assumption)
    | exact Bool.noConfusion (show true = false by assumption)
    | trace_state
  try simp only [↓cqA, cqB] at c2
  refine awp_skip ?_; refine thenQ_nil ?_; refine awp_seq ?_; refine awp_region ?_; refine awps_stp0 rfl rfl (by decide) (stp_move (.inl rfl) rfl) ?_; refine awps_sub (sub_re (T1 := [(66, .dat true 6 (ftDs (sortedL l))), (1, .ptr 1 0), (3, .dat false 7 (kpDs l)), (4, bv (listB l))]) (O1 := [(1, .box (lift false (a9D ⟨l, F, Z⟩)))]) (SubT.cons rfl (SubT.cons rfl (SubT.cons rfl (SubT.cons rfl SubT.nil)))) (SubO.cons rfl SubO.nil) rfl rfl (noL' (noL hL) _)) ?_
  refine awps_spoil rfl rfl rfl (by decide) en_almagestlaw0_Facts rfl rfl rfl rfl (spoilFacts_ok _ (fun b hb => dlb_of 5 _ (fact_parts (sortedL_fact b hb)).2.2 (sortedL_wf hwL b hb).1) (by have := sortedL_len (l := l); omega)) (fun b hb => absurd hb (hQ b)) (fun T' O' hT hO => ?_)
  simp only [ShT, ShV] at hT
  obtain ⟨_, _, rfl, _, _, _, rfl, rfl, _, _, rfl, ⟨e3, rfl, h3⟩, _, _, rfl, rfl, rfl⟩ := hT
  obtain rfl : e3 = _ := by simpa using h3
  have hO2 := shO_box hO
  subst hO2
  refine awps_nil ?_; refine thenQ_nil ?_; refine awp_seq ?_; refine awp_seq ?_; refine awp_region ?_; refine awps_stp0 rfl rfl (by decide) (stp_move (.inr rfl) rfl) ?_; refine awps_nil ?_; refine thenQ_nil ?_; refine awp_block ?_; refine awp_while (8) (fun _ => True) (fun k => ⟨[(1, .ptr 1 0), (3, .dat false 7 (kpDs l)), (4, bv (listB l)), (9, iv (k : Int))], [(1, .box (lift false (a9D ⟨l, F, Z⟩)))]⟩) (trivial) ?_ (fun k hk hp => ?_)
  · exact sub_re (SubT.cons (lk_eq rfl (by first | rfl | simp)) (SubT.cons (lk_eq rfl (by first | rfl | simp)) (SubT.cons (lk_eq rfl (by first | rfl | simp)) (SubT.cons (lk_eq rfl (by first | rfl | simp)) (SubT.nil))))) (SubO.cons (ok_eq rfl (by rfl)) (SubO.nil)) rfl rfl (noL' (noL hL) _)
  refine awp_seq ?_; refine awp_seq ?_; refine awp_region ?_; refine awps_stp0 rfl rfl (by decide) (stp_move (.inl rfl) rfl) ?_; refine awps_stp0 rfl rfl (by decide) (stp_fieldAddr rfl fo_almagestlaw9_Ask_1 rfl) ?_; refine awps_stp0 rfl rfl (by decide) (stp_load rfl tf_S_api_Fact rfl rfl rfl rfl rfl) ?_; refine awps_stp0 rfl rfl (by decide) (stp_len_dat rfl sl_S_api_Fact rfl) ?_; refine awps_stp0 rfl rfl (by decide) (stp_binI rfl rfl rfl rfl) ?_; refine awps_stp0 rfl rfl (by decide) (stp_move (.inl rfl) rfl) ?_; refine awps_split 73 rfl (fun g73 => ?_) (fun g73 => ?_)
  · try simp only [↓cqA, cqB] at g73
    refine awps_g0 rfl rfl rfl (by decide) rfl (by decide) (stp_move (.inl rfl) rfl) ?_; refine awps_g0 rfl rfl rfl (by decide) rfl (by decide) (stp_binI rfl rfl rfl rfl) ?_; refine awps_stp0 rfl rfl (by decide) (stp_pick rfl rfl rfl) ?_; refine awps_nil ?_; refine thenQ_nil ?_; refine awp_cond rfl (fun c3 => ?_) (fun c3 => ?_)
    · try simp only [↓cqA, cqB] at c3
      obtain ⟨f, hf⟩ := get_of_lt (l := F) (k := k) (by omega)
      have wf := hwF f (List.mem_of_getElem? hf)
      have hlt := tmDs_length f.t.args
      have hmb : (mayFE f == 0) = factB f := by rw [mayFE]; cases factB f <;> rfl
      refine awp_skip ?_; refine thenQ_nil ?_; refine awp_seq ?_; refine awp_block ?_; refine awp_seq ?_; refine awp_region ?_; refine awps_stp0 rfl rfl (by decide) (stp_fieldAddr rfl fo_almagestlaw9_Ask_1 rfl) ?_; refine awps_stp0 rfl rfl (by decide) (stp_load rfl tf_S_api_Fact rfl rfl rfl rfl rfl) ?_; refine awps_stp0 rfl rfl (by decide) (stp_move (.inl rfl) rfl) ?_; refine awps_stp0 rfl rfl (by decide) (stp_indexAddr rfl sl_S_api_Fact rfl rfl (by omega) (ftDs_get hf)) ?_; refine awps_stp0 rfl rfl (by decide) (stp_load_elpa rfl tf_api_Fact rfl rfl) ?_
      refine awps_stp1 rfl rfl (by decide) (stp_alloc 10 rfl zv_api_Fact rfl) rfl ?_; refine awps_store rfl rfl rfl tf_api_Fact rfl rfl rfl rfl rfl rfl rfl rfl rfl ?_; refine awps_nil ?_; refine thenQ_nil ?_; refine awp_seq ?_; refine awp_region ?_; refine awps_stp0 rfl rfl (by decide) (stp_load_all rfl tf_api_Fact rfl rfl rfl rfl) ?_
      refine awps_call (avs := [_]) true rfl rfl rfl (by decide) en_almagestref7_Fact rfl rfl (rFact_ok f wf) rfl rfl ?_; refine awps_stp0 rfl rfl (by decide) (stp_move (.inr rfl) rfl) ?_; refine awps_nil ?_; refine thenQ_nil ?_; refine awp_seq ?_; refine awp_region ?_; refine awps_stp0 rfl rfl (by decide) (stp_move (.inl rfl) rfl) ?_; refine awps_stp0 rfl rfl (by decide) (stp_load_all rfl tf_api_Fact rfl rfl rfl rfl) ?_
      refine awps_call (avs := [_, _]) true rfl rfl rfl (by decide) en_facts_Find rfl rfl (Find_ok l hwL f wf) rfl rfl ?_; refine awps_stp0 rfl rfl (by decide) (stp_move (.inl rfl) rfl) ?_; refine awps_stp0 rfl rfl (by decide) (stp_extract rfl rfl rfl) ?_; refine awps_stp0 rfl rfl (by decide) (stp_extract rfl rfl rfl) ?_; refine awps_stp0 rfl rfl (by decide) (stp_move (.inr rfl) rfl) ?_
      refine awps_stp0 rfl rfl (by decide) (stp_move (.inr rfl) rfl) ?_; refine awps_nil ?_; refine thenQ_nil ?_; refine awp_seq ?_; refine awp_region ?_; refine awps_stp0 rfl rfl (by decide) (stp_move (.inr rfl) rfl) ?_; refine awps_stp0 rfl rfl (by decide) (stp_move (.inr rfl) rfl) ?_; refine awps_nil ?_; refine thenQ_nil ?_
      refine awp_cut ⟨[(1, .ptr 1 0), (3, .dat false 7 (kpDs l)), (4, bv (listB l)), (9, iv (k : Int)), (10, .ptr 10 0), (11, bv (factB f)), (12, iv (findN l f)), (13, iv (findE l f)), (14, iv (findE l f)), (15, iv (findN l f))], [(1, .box (lift false (a9D ⟨l, F, Z⟩))), (10, .box (lift false (ftD f)))]⟩ ?_ ?_
      · skip
        refine awp_seq ?_; refine awp_region ?_; refine awps_stp0 rfl rfl (by decide) (stp_move (.inl rfl) rfl) ?_; refine awps_stp0 rfl rfl (by decide) (stp_move (.inl rfl) rfl) ?_; refine awps_split 93 rfl (fun g93 => ?_) (fun g93 => ?_)
        · try simp only [↓cqA, cqB] at g93
          refine awps_g0 rfl rfl rfl (by decide) rfl (by decide) (stp_move (.inl rfl) rfl) ?_; refine awps_stp0 rfl rfl (by decide) (stp_pick rfl rfl rfl) ?_; refine awps_nil ?_; refine thenQ_nil ?_; refine awp_cond rfl (fun c4 => ?_) (fun c4 => ?_)
          · try simp only [↓cqA, cqB] at c4
            obtain ⟨hl3, hlm⟩ := listB_may (l := l) (by assumption)
            have hcc : listB l = true ∧ factB f = true := ⟨by assumption, by assumption⟩
            refine awp_seq ?_; refine awp_region ?_; refine awps_stp0 rfl rfl (by decide) (stp_move (.inr rfl) rfl) ?_; refine awps_nil ?_; refine thenQ_nil ?_; refine awp_seq ?_; refine awp_region ?_; refine awps_stp0 rfl rfl (by decide) (stp_fieldAddr rfl fo_almagestlaw9_Ask_0 rfl) ?_; refine awps_stp0 rfl rfl (by decide) (stp_load rfl tf_S_api_Kept rfl rfl rfl rfl rfl) ?_; refine awps_stp0 rfl rfl (by decide) (stp_load_all rfl tf_api_Fact rfl rfl rfl rfl) ?_
            refine awps_call (avs := [_, _]) true rfl rfl rfl (by decide) en_almagestref7_Find rfl rfl (rFind_ok l (by omega) hwL hlm f wf) rfl rfl ?_; refine awps_stp0 rfl rfl (by decide) (stp_move (.inr rfl) rfl) ?_; refine awps_nil ?_; refine thenQ_nil ?_; refine awp_seq ?_; refine awp_region ?_; refine awps_stp0 rfl rfl (by decide) (stp_move (.inl rfl) rfl) ?_; refine awps_stp0 rfl rfl (by decide) (stp_binI rfl rfl rfl rfl) ?_; refine awps_nil ?_; refine thenQ_nil ?_; refine awp_cond rfl (fun c5 => ?_) (fun c5 => ?_)
            · try simp only [↓cqA, cqB] at c5
              obtain ⟨i, x, ha, hx, _⟩ : ∃ (i : Nat) (x : Kp), atN f l = i ∧ l[i]? = some x ∧ cmpF x.f f = 0 := by
                rcases atN_cases f l with h | h
                · omega
                · exact h
              have hx2 : l[(atN f l).toNat]? = some x := by rw [ha]; exact hx
              have hE : findE l f = 0 := by rw [findE, if_pos hcc, if_neg (by omega)]
              have hN : findN l f = x.seq := by rw [findN, if_pos hcc, if_neg (by omega), hx2]
              refine awp_drawG 7 mixed rfl rfl rfl rfl ?_; refine MGo_c0 rfl (by decide) (.run rfl (stp_fieldAddr rfl fo_almagestlaw9_Ask_0 rfl)) ?_; refine MGo_c0 rfl (by decide) (.run rfl (stp_load rfl tf_S_api_Kept rfl rfl rfl rfl rfl)) ?_; refine MGo_c0 rfl (by decide) (.run rfl (stp_move (.inl rfl) rfl)) ?_; refine MGo_c0 rfl (by decide) (.run rfl (stp_indexAddr rfl sl_S_api_Kept rfl rfl (by omega) (kpDs_get hx2))) ?_; refine MGo_c0 rfl (by decide) (.run rfl (stp_fieldAddr_elp rfl fo_api_Kept_0 rfl)) ?_
              refine MGo_c0 rfl (by decide) (.run rfl (stp_load_elp1 rfl tf_int rfl)) ?_; refine MGo_c0 rfl (by decide) (.run rfl (stp_move (.inr rfl) rfl)) ?_; refine MGo_nil ⟨rfl, rfl, ?_⟩; refine awps_stp0 rfl rfl (by decide) (stp_move (.inr rfl) rfl) ?_; refine awps_nil ?_
              exact thenQ_cut (sub_re (SubT.cons (lk_eq rfl (by first | rfl | simp)) (SubT.cons (lk_eq rfl (by first | rfl | simp)) (SubT.cons (lk_eq rfl (by first | rfl | simp)) (SubT.cons (lk_eq rfl (by first | rfl | simp)) (SubT.cons (lk_eq rfl (by first | rfl | simp)) (SubT.cons (lk_eq rfl (by first | rfl | simp)) (SubT.cons (lk_eq rfl (by first | rfl | simp)) (SubT.cons (lk_eq rfl (by first | rfl | simp)) (SubT.cons (lk_eq rfl (by first | rfl | (rw [hE]; try rfl))) (SubT.cons (lk_eq rfl (by first | rfl | (rw [hN]; try rfl))) (SubT.nil))))))))))) (SubO.cons (ok_eq rfl (by rfl)) (SubO.cons (ok_eq rfl (by rfl)) (SubO.nil))) rfl rfl (noL' (noL hL) _))
            try simp only [↓cqA, cqB] at c5
            have hE : findE l f = 3 := by rw [findE, if_pos hcc, if_pos (by omega)]
            have hN : findN l f = 0 := by rw [findN, if_pos hcc, if_pos (by omega)]
            refine awp_skip ?_
            exact thenQ_cut (sub_re (SubT.cons (lk_eq rfl (by first | rfl | simp)) (SubT.cons (lk_eq rfl (by first | rfl | simp)) (SubT.cons (lk_eq rfl (by first | rfl | simp)) (SubT.cons (lk_eq rfl (by first | rfl | simp)) (SubT.cons (lk_eq rfl (by first | rfl | simp)) (SubT.cons (lk_eq rfl (by first | rfl | simp)) (SubT.cons (lk_eq rfl (by first | rfl | simp)) (SubT.cons (lk_eq rfl (by first | rfl | simp)) (SubT.cons (lk_eq rfl (by first | rfl | (rw [hE]; try rfl))) (SubT.cons (lk_eq rfl (by first | rfl | (rw [hN]; try rfl))) (SubT.nil))))))))))) (SubO.cons (ok_eq rfl (by rfl)) (SubO.cons (ok_eq rfl (by rfl)) (SubO.nil))) rfl rfl (noL' (noL hL) _))
          try simp only [↓cqA, cqB] at c4
          have hcn : ¬ (listB l = true ∧ factB f = true) := fun h => by rw [h.2] at c4; cases c4
          have hE : findE l f = 1 := by rw [findE, if_neg hcn]
          have hN : findN l f = 0 := by rw [findN, if_neg hcn]
          refine awp_skip ?_
          exact thenQ_cut (sub_re (SubT.cons (lk_eq rfl (by first | rfl | simp)) (SubT.cons (lk_eq rfl (by first | rfl | simp)) (SubT.cons (lk_eq rfl (by first | rfl | simp)) (SubT.cons (lk_eq rfl (by first | rfl | simp)) (SubT.cons (lk_eq rfl (by first | rfl | simp)) (SubT.cons (lk_eq rfl (by first | rfl | simp)) (SubT.cons (lk_eq rfl (by first | rfl | simp)) (SubT.cons (lk_eq rfl (by first | rfl | simp)) (SubT.cons (lk_eq rfl (by first | rfl | (rw [hE]; try rfl))) (SubT.cons (lk_eq rfl (by first | rfl | (rw [hN]; try rfl))) (SubT.nil))))))))))) (SubO.cons (ok_eq rfl (by rfl)) (SubO.cons (ok_eq rfl (by rfl)) (SubO.nil))) rfl rfl (noL' (noL hL) _))
        try simp only [↓cqA, cqB] at g93
        have hcn : ¬ (listB l = true ∧ factB f = true) := fun h => by rw [h.1] at g93; cases g93
        have hE : findE l f = 1 := by rw [findE, if_neg hcn]
        have hN : findN l f = 0 := by rw [findN, if_neg hcn]
        refine awps_gs rfl rfl rfl rfl (by decide) rfl (by decide) ?_; refine awps_stp0 rfl rfl (by decide) (stp_pick rfl rfl rfl) ?_; refine awps_nil ?_; refine thenQ_nil ?_; refine awp_condF rfl ?_; refine awp_skip ?_
        exact thenQ_cut (sub_re (SubT.cons (lk_eq rfl (by first | rfl | simp)) (SubT.cons (lk_eq rfl (by first | rfl | simp)) (SubT.cons (lk_eq rfl (by first | rfl | simp)) (SubT.cons (lk_eq rfl (by first | rfl | simp)) (SubT.cons (lk_eq rfl (by first | rfl | simp)) (SubT.cons (lk_eq rfl (by first | rfl | simp)) (SubT.cons (lk_eq rfl (by first | rfl | simp)) (SubT.cons (lk_eq rfl (by first | rfl | simp)) (SubT.cons (lk_eq rfl (by first | rfl | (rw [hE]; try rfl))) (SubT.cons (lk_eq rfl (by first | rfl | (rw [hN]; try rfl))) (SubT.nil))))))))))) (SubO.cons (ok_eq rfl (by rfl)) (SubO.cons (ok_eq rfl (by rfl)) (SubO.nil))) rfl rfl (noL' (noL hL) _))
      refine awp_seq ?_; refine awp_seq ?_; refine awp_region ?_; refine awps_stp0 rfl rfl (by decide) (stp_load_all rfl tf_api_Fact rfl rfl rfl rfl) ?_; refine awps_call (avs := [_]) true rfl rfl rfl (by decide) en_facts_May rfl rfl (factsMay_ok f wf) rfl rfl ?_; refine awps_call (avs := [_]) true rfl rfl rfl (by decide) en_almagestlaw9_num rfl rfl (num9_ok _) rfl rfl ?_; refine awps_stp0 rfl rfl (by decide) (stp_binI rfl rfl rfl rfl) ?_; refine awps_stp0 rfl rfl (by decide) (stp_move (.inl rfl) rfl) ?_
      refine awps_stp0 rfl rfl (by decide) (stp_neB rfl ul_bool rfl rfl) ?_; refine awps_stp0 rfl rfl (by decide) (stp_move (.inl rfl) rfl) ?_; refine awps_split 114 rfl (fun g114 => ?_) (fun g114 => ?_)
      · try simp only [↓cqA, cqB] at g114
        refine awps_gs rfl rfl rfl rfl (by decide) rfl (by decide) ?_; refine awps_gs rfl rfl rfl rfl (by decide) rfl (by decide) ?_; refine awps_gs rfl rfl rfl rfl (by decide) rfl (by decide) ?_; refine awps_gs rfl rfl rfl rfl (by decide) rfl (by decide) ?_; refine awps_stp0 rfl rfl (by decide) (stp_pick rfl rfl rfl) ?_; refine awps_stp0 rfl rfl (by decide) (stp_move (.inl rfl) rfl) ?_
        refine awps_gs rfl rfl rfl rfl (by decide) rfl (by decide) ?_; refine awps_gs rfl rfl rfl rfl (by decide) rfl (by decide) ?_; refine awps_gs rfl rfl rfl rfl (by decide) rfl (by decide) ?_; refine awps_stp0 rfl rfl (by decide) (stp_pick rfl rfl rfl) ?_; refine awps_nil ?_; refine thenQ_nil ?_; refine awp_condT rfl ?_; refine awp_seq ?_; refine awp_region ?_; refine awps_stp0 rfl rfl (by decide) (stp_move (.inr rfl) rfl) ?_; refine awps_nil ?_; refine thenQ_nil ?_; refine awp_ret ?_; refine thenQ_ret (inQ_ret (thenQ_ret (thenQ_ret (inQ_ret (thenQ_ret (?_))))))
        -- leaf 0Fg54Fg60F2Fg73T3Tg114T
        refine ret0 (noL hL) (.inl rfl) (resAs_tmp rfl (resAs_nil)) ?_ ?_
        · rfl
        first
        | exact ⟨rfl, rfl⟩
        | exact absurd hsb (by assumption)
        | exact absurd hmb (by assumption)
        | exact absurd trivial (by assumption)
        | exact Bool.noConfusion (show true = false by assumption)
        | trace_state
      try simp only [↓cqA, cqB] at g114
      refine awps_g0 rfl rfl rfl (by decide) rfl (by decide) (stp_move (.inl rfl) rfl) ?_; refine awps_g0 rfl rfl rfl (by decide) rfl (by decide) (stp_call (avs := [_]) true rfl en_almagestlaw9_num rfl rfl (num9_ok _) (fun _ => rfl) rfl) ?_; refine awps_g0 rfl rfl rfl (by decide) rfl (by decide) (stp_move (.inl rfl) rfl) ?_
      refine awps_g0 rfl rfl rfl (by decide) rfl (by decide) (stp_binI rfl rfl rfl rfl) ?_; refine awps_stp0 rfl rfl (by decide) (stp_pick rfl rfl rfl) ?_; refine awps_stp0 rfl rfl (by decide) (stp_move (.inl rfl) rfl) ?_; refine awps_split 120 rfl (fun g120 => ?_) (fun g120 => ?_)
      · try simp only [↓cqA, cqB] at g120
        refine awps_gs rfl rfl rfl rfl (by decide) rfl (by decide) ?_; refine awps_gs rfl rfl rfl rfl (by decide) rfl (by decide) ?_; refine awps_gs rfl rfl rfl rfl (by decide) rfl (by decide) ?_; refine awps_stp0 rfl rfl (by decide) (stp_pick rfl rfl rfl) ?_; refine awps_nil ?_; refine thenQ_nil ?_; refine awp_condT rfl ?_; refine awp_seq ?_; refine awp_region ?_; refine awps_stp0 rfl rfl (by decide) (stp_move (.inr rfl) rfl) ?_; refine awps_nil ?_; refine thenQ_nil ?_; refine awp_ret ?_; refine thenQ_ret (inQ_ret (thenQ_ret (thenQ_ret (inQ_ret (thenQ_ret (?_))))))
        -- leaf 0Fg54Fg60F2Fg73T3Tg114Fg120T
        refine ret0 (noL hL) (.inl rfl) (resAs_tmp rfl (resAs_nil)) ?_ ?_
        · rfl
        first
        | exact ⟨rfl, rfl⟩
        | exact absurd hsb (by assumption)
        | exact absurd hmb (by assumption)
        | exact absurd trivial (by assumption)
        | exact Bool.noConfusion (show true = false by assumption)
        | trace_state
      try simp only [↓cqA, cqB] at g120
      refine awps_g0 rfl rfl rfl (by decide) rfl (by decide) (stp_move (.inl rfl) rfl) ?_; refine awps_g0 rfl rfl rfl (by decide) rfl (by decide) (stp_move (.inl rfl) rfl) ?_; refine awps_g0 rfl rfl rfl (by decide) rfl (by decide) (stp_binI rfl rfl rfl rfl) ?_; refine awps_stp0 rfl rfl (by decide) (stp_pick rfl rfl rfl) ?_; refine awps_nil ?_; refine thenQ_nil ?_; refine awp_cond rfl (fun c6 => ?_) (fun c6 => ?_)
      · try simp only [↓cqA, cqB] at c6
        refine awp_seq ?_; refine awp_region ?_; refine awps_stp0 rfl rfl (by decide) (stp_move (.inr rfl) rfl) ?_; refine awps_nil ?_; refine thenQ_nil ?_; refine awp_ret ?_; refine thenQ_ret (inQ_ret (thenQ_ret (thenQ_ret (inQ_ret (thenQ_ret (?_))))))
        -- leaf 0Fg54Fg60F2Fg73T3Tg114Fg120F6T
        refine ret0 (noL hL) (.inl rfl) (resAs_tmp rfl (resAs_nil)) ?_ ?_
        · rfl
        first
        | exact ⟨rfl, rfl⟩
        | exact absurd hsb (by assumption)
        | exact absurd hmb (by assumption)
        | exact absurd trivial (by assumption)
        | exact Bool.noConfusion (show true = false by assumption)
        | trace_state
      try simp only [↓cqA, cqB] at c6
      refine awp_skip ?_; refine thenQ_nil ?_; refine awp_seq ?_; refine awp_region ?_; refine awps_stp0 rfl rfl (by decide) (stp_move (.inr rfl) rfl) ?_; refine awps_nil ?_; refine thenQ_nil ?_; refine awp_cut ⟨[(1, .ptr 1 0), (3, .dat false 7 (kpDs l)), (4, bv (listB l)), (9, iv (k : Int)), (10, .ptr 10 0), (11, bv (factB f)), (17, iv (lastS l))], [(1, .box (lift false (a9D ⟨l, F, Z⟩))), (10, .box (lift false (ftD f)))]⟩ ?_ ?_
      · skip
        refine awp_seq ?_; refine awp_region ?_; refine awps_stp0 rfl rfl (by decide) (stp_fieldAddr rfl fo_almagestlaw9_Ask_0 rfl) ?_; refine awps_stp0 rfl rfl (by decide) (stp_load rfl tf_S_api_Kept rfl rfl rfl rfl rfl) ?_; refine awps_stp0 rfl rfl (by decide) (stp_len_dat rfl sl_S_api_Kept rfl) ?_; refine awps_stp0 rfl rfl (by decide) (stp_binI rfl rfl rfl rfl) ?_; refine awps_nil ?_; refine thenQ_nil ?_; refine awp_cond rfl (fun c7 => ?_) (fun c7 => ?_)
        · try simp only [↓cqA, cqB] at c7
          obtain ⟨z, hz⟩ := get_of_lt (l := l) (k := l.length - 1) (by omega)
          have hz2 : l[((l.length : Int) - 1).toNat]? = some z := by rw [show ((l.length : Int) - 1).toNat = l.length - 1 by omega]; exact hz
          have hz3 : lastS l = z.seq := by rw [lastS, hz]
          rw [← hlen] at hz2
          refine awp_region ?_; refine awps_stp0 rfl rfl (by decide) (stp_fieldAddr rfl fo_almagestlaw9_Ask_0 rfl) ?_; refine awps_stp0 rfl rfl (by decide) (stp_load rfl tf_S_api_Kept rfl rfl rfl rfl rfl) ?_; refine awps_stp0 rfl rfl (by decide) (stp_fieldAddr rfl fo_almagestlaw9_Ask_0 rfl) ?_; refine awps_stp0 rfl rfl (by decide) (stp_load rfl tf_S_api_Kept rfl rfl rfl rfl rfl) ?_; refine awps_stp0 rfl rfl (by decide) (stp_len_dat rfl sl_S_api_Kept rfl) ?_; refine awps_stp0 rfl rfl (by decide) (stp_sub rfl rfl rfl (by omega)) ?_
          refine awps_stp0 rfl rfl (by decide) (stp_indexAddr rfl sl_S_api_Kept rfl rfl (by omega) (kpDs_get hz2)) ?_; refine awps_stp0 rfl rfl (by decide) (stp_fieldAddr_elp rfl fo_api_Kept_0 rfl) ?_; refine awps_stp0 rfl rfl (by decide) (stp_load_elp1 rfl tf_int rfl) ?_; refine awps_stp0 rfl rfl (by decide) (stp_move (.inr rfl) rfl) ?_; refine awps_nil ?_
          exact thenQ_cut (sub_re (SubT.cons (lk_eq rfl (by first | rfl | simp)) (SubT.cons (lk_eq rfl (by first | rfl | simp)) (SubT.cons (lk_eq rfl (by first | rfl | simp)) (SubT.cons (lk_eq rfl (by first | rfl | simp)) (SubT.cons (lk_eq rfl (by first | rfl | simp)) (SubT.cons (lk_eq rfl (by first | rfl | simp)) (SubT.cons (lk_eq rfl (by first | rfl | (rw [hz3]; try rfl))) (SubT.nil)))))))) (SubO.cons (ok_eq rfl (by rfl)) (SubO.cons (ok_eq rfl (by rfl)) (SubO.nil))) rfl rfl (noL' (noL hL) _))
        try simp only [↓cqA, cqB] at c7
        have hz3 : lastS l = -1 := lastS_nil (by omega)
        refine awp_skip ?_
        exact thenQ_cut (sub_re (SubT.cons (lk_eq rfl (by first | rfl | simp)) (SubT.cons (lk_eq rfl (by first | rfl | simp)) (SubT.cons (lk_eq rfl (by first | rfl | simp)) (SubT.cons (lk_eq rfl (by first | rfl | simp)) (SubT.cons (lk_eq rfl (by first | rfl | simp)) (SubT.cons (lk_eq rfl (by first | rfl | simp)) (SubT.cons (lk_eq rfl (by first | rfl | (rw [hz3]; try rfl))) (SubT.nil)))))))) (SubO.cons (ok_eq rfl (by rfl)) (SubO.cons (ok_eq rfl (by rfl)) (SubO.nil))) rfl rfl (noL' (noL hL) _))
      refine awp_seq ?_; refine awp_region ?_; refine awps_stp0 rfl rfl (by decide) (stp_move (.inl rfl) rfl) ?_; refine awps_stp0 rfl rfl (by decide) (stp_binI rfl rfl rfl rfl) ?_; refine awps_stp0 rfl rfl (by decide) (stp_move (.inl rfl) rfl) ?_; refine awps_stp1 rfl rfl (by decide) (stp_buildSlice 141 rfl sl_S_int zv_int rfl rfl (by decide) (by decide) (by decide) rfl rfl rfl) rfl ?_; refine awps_rowd 141 false 4 rfl rfl rfl rfl ?_; refine awps_stp0 rfl rfl (by decide) (stp_fieldAddr rfl fo_almagestlaw9_Ask_2 rfl) ?_
      refine awps_stp0 rfl rfl (by decide) (stp_load rfl tf_S_int rfl rfl rfl rfl rfl) ?_; refine awps_u rfl rfl (by decide) (stpU_appendd 144 ta_S_int rfl rfl rfl rfl rfl (noL hL _) (fun d hd => by obtain ⟨s, _, rfl⟩ := List.mem_map.1 hd; rfl) (by have h3 : (inDs Z).length = Z.length := hlz; simp only [inDs] at h3; simp [chunk]; omega) rfl) rfl ?_
      refine awps_sub (sub_freeze (l := 144) rfl (by decide) (noL hL _) rfl rfl) ?_; refine awps_stp0 rfl rfl (by decide) (stp_move (.inr rfl) rfl) ?_; refine awps_nil ?_; refine thenQ_nil ?_; refine awp_seq ?_; refine awp_seq ?_; refine awp_region ?_; refine awps_stp0 rfl rfl (by decide) (stp_move (.inr rfl) rfl) ?_; refine awps_nil ?_; refine thenQ_nil ?_; refine awp_block ?_
      refine awp_while (12) (fun _ => True) (fun j => ⟨[(1, .ptr 1 0), (3, .dat false 7 (kpDs l)), (4, bv (listB l)), (9, iv (k : Int)), (10, .ptr 10 0), (11, bv (factB f)), (17, iv (lastS l)), (18, .dat false 1 (inDs (nsL l Z))), (19, iv (j : Int))], [(1, .box (lift false (a9D ⟨l, F, Z⟩))), (10, .box (lift false (ftD f)))]⟩) (trivial) ?_ (fun j hj hpj => ?_)
      · exact sub_re (SubT.cons (lk_eq rfl (by first | rfl | simp)) (SubT.cons (lk_eq rfl (by first | rfl | simp)) (SubT.cons (lk_eq rfl (by first | rfl | simp)) (SubT.cons (lk_eq rfl (by first | rfl | simp)) (SubT.cons (lk_eq rfl (by first | rfl | simp)) (SubT.cons (lk_eq rfl (by first | rfl | simp)) (SubT.cons (lk_eq rfl (by first | rfl | simp)) (SubT.cons (lk_eq rfl (by first | rfl | simp)) (SubT.cons (lk_eq rfl (by first | rfl | simp)) (SubT.nil)))))))))) (SubO.cons (ok_eq rfl (by rfl)) (SubO.cons (ok_eq rfl (by rfl)) (SubO.nil))) rfl rfl (noL' (noL hL) _)
      have hns := nsL_len l Z
      refine awp_seq ?_; refine awp_seq ?_; refine awp_region ?_; refine awps_stp0 rfl rfl (by decide) (stp_move (.inl rfl) rfl) ?_; refine awps_stp0 rfl rfl (by decide) (stp_move (.inl rfl) rfl) ?_; refine awps_stp0 rfl rfl (by decide) (stp_len_dat rfl sl_S_int rfl) ?_; refine awps_stp0 rfl rfl (by decide) (stp_binI rfl rfl rfl rfl) ?_; refine awps_stp0 rfl rfl (by decide) (stp_move (.inl rfl) rfl) ?_; refine awps_split 149 rfl (fun g149 => ?_) (fun g149 => ?_)
      · try simp only [↓cqA, cqB] at g149
        refine awps_g0 rfl rfl rfl (by decide) rfl (by decide) (stp_move (.inl rfl) rfl) ?_; refine awps_g0 rfl rfl rfl (by decide) rfl (by decide) (stp_binI rfl rfl rfl rfl) ?_; refine awps_stp0 rfl rfl (by decide) (stp_pick rfl rfl rfl) ?_; refine awps_nil ?_; refine thenQ_nil ?_; refine awp_cond rfl (fun c8 => ?_) (fun c8 => ?_)
        · try simp only [↓cqA, cqB] at c8
          obtain ⟨n, hn⟩ := get_of_lt (l := nsL l Z) (k := j) (by have := inDs_length (nsL l Z); omega)
          have hni := nsL_i64 hwL hwZ n (List.mem_of_getElem? hn)
          refine awp_skip ?_; refine thenQ_nil ?_; refine awp_seq ?_; refine awp_block ?_; refine awp_seq ?_; refine awp_drawG 11 mixed rfl rfl rfl rfl ?_; refine MGo_c0 rfl (by decide) (.run rfl (stp_move (.inl rfl) rfl)) ?_; refine MGo_c0 rfl (by decide) (.run rfl (stp_move (.inl rfl) rfl)) ?_; refine MGo_c0 rfl (by decide) (.run rfl (stp_move (.inl rfl) rfl)) ?_; refine MGo_c0 rfl (by decide) (.run rfl (stp_indexAddr rfl sl_S_int rfl rfl (by omega) (inDs_get hn))) ?_; refine MGo_c0 rfl (by decide) (.run rfl (stp_load_elp1 rfl tf_int rfl)) ?_
          refine MGo_c0 rfl (by decide) (.run rfl (stp_load_all rfl tf_api_Fact rfl rfl rfl rfl)) ?_; refine MGo_c0 rfl (by decide) (.run rfl (stp_call (avs := [_, _, _]) true rfl en_facts_Add rfl rfl (Add_ok l hwL n hni f wf) (fun _ => rfl) rfl)) ?_; refine MGo_c0 rfl (by decide) (.run rfl (stp_move (.inl rfl) rfl)) ?_; refine MGo_c0 rfl (by decide) (.run rfl (stp_extract rfl rfl rfl)) ?_; refine MGo_c0 rfl (by decide) (.run rfl (stp_extract rfl rfl rfl)) ?_
          refine MGo_c0 rfl (by decide) (.run rfl (stp_move (.inr rfl) rfl)) ?_; refine MGo_nil ⟨rfl, rfl, ?_⟩; refine awps_stp0 rfl rfl (by decide) (stp_move (.inr rfl) rfl) ?_; refine awps_nil ?_; refine thenQ_nil ?_; refine awp_seq ?_; refine awp_region ?_; refine awps_stp0 rfl rfl (by decide) (stp_move (.inr rfl) rfl) ?_; refine awps_nil ?_; refine thenQ_nil ?_; refine awp_seq ?_; refine awp_region ?_; refine awps_stp0 rfl rfl (by decide) (stp_move (.inr rfl) rfl) ?_; refine awps_nil ?_; refine thenQ_nil ?_
          refine awp_cut ⟨[(1, .ptr 1 0), (3, .dat false 7 (kpDs l)), (4, bv (listB l)), (9, iv (k : Int)), (10, .ptr 10 0), (11, bv (factB f)), (17, iv (lastS l)), (18, .dat false 1 (inDs (nsL l Z))), (19, iv (j : Int)), (14, iv (addE l n f)), (20, .dat true 7 (kpDs (addL l n f))), (21, iv (addE l n f)), (22, .dat false 7 (kpDs (addL l n f)))], [(1, .box (lift false (a9D ⟨l, F, Z⟩))), (10, .box (lift false (ftD f)))]⟩ ?_ ?_
          · skip
            refine awp_seq ?_; refine awp_sub (sub_nil_dat (t := 22) 7 false rfl) ?_; refine awp_region ?_; refine awps_stp0 rfl rfl (by decide) (stp_move (.inl rfl) rfl) ?_; refine awps_stp0 rfl rfl (by decide) (stp_move (.inl rfl) rfl) ?_; refine awps_split 166 rfl (fun g166 => ?_) (fun g166 => ?_)
            · try simp only [↓cqA, cqB] at g166
              refine awps_g0 rfl rfl rfl (by decide) rfl (by decide) (stp_move (.inl rfl) rfl) ?_; refine awps_stp0 rfl rfl (by decide) (stp_pick rfl rfl rfl) ?_; refine awps_stp0 rfl rfl (by decide) (stp_move (.inl rfl) rfl) ?_; refine awps_split 169 rfl (fun g169 => ?_) (fun g169 => ?_)
              · try simp only [↓cqA, cqB] at g169
                refine awps_g0 rfl rfl rfl (by decide) rfl (by decide) (stp_move (.inl rfl) rfl) ?_; refine awps_g0 rfl rfl rfl (by decide) rfl (by decide) (stp_move (.inl rfl) rfl) ?_; refine awps_g0 rfl rfl rfl (by decide) rfl (by decide) (stp_indexAddr rfl sl_S_int rfl rfl (by omega) (inDs_get hn)) ?_; refine awps_g0 rfl rfl rfl (by decide) rfl (by decide) (stp_load_elp1 rfl tf_int rfl) ?_
                refine awps_g0 rfl rfl rfl (by decide) rfl (by decide) (stp_call (avs := [_, _]) true rfl en_almagestref0_Num rfl rfl (Num_ok n 1073741824) (fun _ => rfl) rfl) ?_; refine awps_stp0 rfl rfl (by decide) (stp_pick rfl rfl rfl) ?_; refine awps_stp0 rfl rfl (by decide) (stp_move (.inl rfl) rfl) ?_; refine awps_split 176 rfl (fun g176 => ?_) (fun g176 => ?_)
                · try simp only [↓cqA, cqB] at g176
                  refine awps_g0 rfl rfl rfl (by decide) rfl (by decide) (stp_move (.inl rfl) rfl) ?_; refine awps_g0 rfl rfl rfl (by decide) rfl (by decide) (stp_move (.inl rfl) rfl) ?_; refine awps_g0 rfl rfl rfl (by decide) rfl (by decide) (stp_indexAddr rfl sl_S_int rfl rfl (by omega) (inDs_get hn)) ?_; refine awps_g0 rfl rfl rfl (by decide) rfl (by decide) (stp_load_elp1 rfl tf_int rfl) ?_
                  refine awps_g0 rfl rfl rfl (by decide) rfl (by decide) (stp_move (.inl rfl) rfl) ?_; refine awps_g0 rfl rfl rfl (by decide) rfl (by decide) (stp_binI rfl rfl rfl rfl) ?_; refine awps_stp0 rfl rfl (by decide) (stp_pick rfl rfl rfl) ?_; refine awps_nil ?_; refine thenQ_nil ?_; refine awp_cond rfl (fun c9 => ?_) (fun c9 => ?_)
                  · try simp only [↓cqA, cqB] at c9
                    have hC : addC l n f = true := addC_iff.2 ⟨by assumption, by assumption, by omega, by omega, by omega⟩
                    obtain ⟨hl3, hlm⟩ := listB_may (l := l) (by assumption)
                    refine awp_seq ?_; refine awp_region ?_; refine awps_stp0 rfl rfl (by decide) (stp_move (.inr rfl) rfl) ?_; refine awps_nil ?_; refine thenQ_nil ?_; refine awp_seq ?_; refine awp_region ?_; refine awps_stp0 rfl rfl (by decide) (stp_fieldAddr rfl fo_almagestlaw9_Ask_0 rfl) ?_; refine awps_stp0 rfl rfl (by decide) (stp_load rfl tf_S_api_Kept rfl rfl rfl rfl rfl) ?_; refine awps_stp0 rfl rfl (by decide) (stp_load_all rfl tf_api_Fact rfl rfl rfl rfl) ?_
                    refine awps_call (avs := [_, _]) true rfl rfl rfl (by decide) en_almagestref7_Find rfl rfl (rFind_ok l (by omega) hwL hlm f wf) rfl rfl ?_; refine awps_stp0 rfl rfl (by decide) (stp_binI rfl rfl rfl rfl) ?_; refine awps_nil ?_; refine thenQ_nil ?_; refine awp_cond rfl (fun c10 => ?_) (fun c10 => ?_)
                    · try simp only [↓cqA, cqB] at c10
                      refine awp_seq ?_; refine awp_region ?_; refine awps_stp0 rfl rfl (by decide) (stp_move (.inr rfl) rfl) ?_; refine awps_nil ?_; refine thenQ_nil ?_; refine awp_seq ?_; refine awp_region ?_; refine awps_stp0 rfl rfl (by decide) (stp_fieldAddr rfl fo_almagestlaw9_Ask_0 rfl) ?_; refine awps_stp0 rfl rfl (by decide) (stp_load rfl tf_S_api_Kept rfl rfl rfl rfl rfl) ?_; refine awps_stp0 rfl rfl (by decide) (stp_len_dat rfl sl_S_api_Kept rfl) ?_
                      refine awps_stp0 rfl rfl (by decide) (stp_binI rfl rfl rfl rfl) ?_; refine awps_nil ?_; refine thenQ_nil ?_; refine awp_cond rfl (fun c11 => ?_) (fun c11 => ?_)
                      · try simp only [↓cqA, cqB] at c11
                        obtain ⟨hE, hA⟩ := add_good hC (by omega) (by omega)
                        refine awp_seq ?_; refine awp_region ?_; refine awps_stp0 rfl rfl (by decide) (stp_move (.inr rfl) rfl) ?_; refine awps_nil ?_; refine thenQ_nil ?_; refine awp_drawG 10 mixed rfl rfl rfl rfl ?_; refine MGo_c0 rfl (by decide) (.run rfl (stp_fieldAddr rfl fo_almagestlaw9_Ask_0 rfl)) ?_; refine MGo_c0 rfl (by decide) (.run rfl (stp_load rfl tf_S_api_Kept rfl rfl rfl rfl rfl)) ?_
                        refine MGo_u rfl rfl (by decide) (stpU_call (avs := [_]) false rfl en_almagestref0_CopyKepts rfl rfl (AC_rnE 3 477 (CopyKeptsU_ok 30 l (by omega) hv4 hwL)) (fun _ => rfl) rfl) ?_; refine MGo_c0 rfl (by decide) (.run rfl (stp_move (.inl rfl) rfl)) ?_; refine MGo_c0 rfl (by decide) (.run rfl (stp_move (.inl rfl) rfl)) ?_; refine MGo_c0 rfl (by decide) (.run rfl (stp_indexAddr rfl sl_S_int rfl rfl (by omega) (inDs_get hn))) ?_; refine MGo_c0 rfl (by decide) (.run rfl (stp_load_elp1 rfl tf_int rfl)) ?_
                        refine MGo_c0 rfl (by decide) (.run rfl (stp_load_all rfl tf_api_Fact rfl rfl rfl rfl)) ?_; refine MGo_c0 rfl (by decide) (.run rfl (stp_build rfl zv_api_Kept rfl pl_api_Kept rfl rfl)) ?_; refine MGo_c1 rfl (by decide) (.run rfl (stp_buildSlice 202 rfl sl_S_api_Kept zv_api_Kept rfl rfl (by decide) (by decide) (by decide) rfl rfl rfl)) ?_; refine MGo_nil ⟨rfl, rfl, ?_⟩; refine awps_u rfl rfl (by decide) (stpU_append1 203 ta_S_api_Kept rfl rfl rfl rfl rfl rfl rfl rfl (noL hL _) (by omega) rfl) rfl ?_
                        refine awps_sub (sub_freeze (l := 203) rfl (by decide) (noL hL _) rfl rfl) ?_; refine awps_stp0 rfl rfl (by decide) (stp_move (.inr rfl) rfl) ?_; refine awps_nil ?_
                        exact thenQ_cut (sub_re (SubT.cons (lk_eq rfl (by first | rfl | simp)) (SubT.cons (lk_eq rfl (by first | rfl | simp)) (SubT.cons (lk_eq rfl (by first | rfl | simp)) (SubT.cons (lk_eq rfl (by first | rfl | simp)) (SubT.cons (lk_eq rfl (by first | rfl | simp)) (SubT.cons (lk_eq rfl (by first | rfl | simp)) (SubT.cons (lk_eq rfl (by first | rfl | simp)) (SubT.cons (lk_eq rfl (by first | rfl | simp)) (SubT.cons (lk_eq rfl (by first | rfl | simp)) (SubT.cons (lk_eq rfl (by first | rfl | (rw [hE]; try rfl))) (SubT.cons (lk_eq rfl (by first | rfl | simp)) (SubT.cons (lk_eq rfl (by first | rfl | simp)) (SubT.cons (lk_eq rfl (by first | rfl | (rw [hA]; rfl) | (rw [hA]; done) | (rw [hA, show kpDs (l ++ [(⟨n, f⟩ : Kp)]) = kpDs l ++ [kpD ⟨n, f⟩] by rw [kpDs, List.map_append]; rfl]; rfl))) (SubT.nil)))))))))))))) (SubO.cons (ok_eq rfl (by rfl)) (SubO.cons (ok_eq rfl (by rfl)) (SubO.nil))) rfl rfl (noL' (noL hL) _))
                      try simp only [↓cqA, cqB] at c11
                      obtain ⟨hE, hA⟩ := add_full hC (by omega) (by omega)
                      refine awp_skip ?_
                      exact thenQ_cut (sub_re (SubT.cons (lk_eq rfl (by first | rfl | simp)) (SubT.cons (lk_eq rfl (by first | rfl | simp)) (SubT.cons (lk_eq rfl (by first | rfl | simp)) (SubT.cons (lk_eq rfl (by first | rfl | simp)) (SubT.cons (lk_eq rfl (by first | rfl | simp)) (SubT.cons (lk_eq rfl (by first | rfl | simp)) (SubT.cons (lk_eq rfl (by first | rfl | simp)) (SubT.cons (lk_eq rfl (by first | rfl | simp)) (SubT.cons (lk_eq rfl (by first | rfl | simp)) (SubT.cons (lk_eq rfl (by first | rfl | (rw [hE]; try rfl))) (SubT.cons (lk_eq rfl (by first | rfl | simp)) (SubT.cons (lk_eq rfl (by first | rfl | simp)) (SubT.cons (lk_eq rfl (by first | rfl | (rw [hA]; rfl) | (rw [hA]; done) | (rw [hA, show kpDs (l ++ [(⟨n, f⟩ : Kp)]) = kpDs l ++ [kpD ⟨n, f⟩] by rw [kpDs, List.map_append]; rfl]; rfl))) (SubT.nil)))))))))))))) (SubO.cons (ok_eq rfl (by rfl)) (SubO.cons (ok_eq rfl (by rfl)) (SubO.nil))) rfl rfl (noL' (noL hL) _))
                    try simp only [↓cqA, cqB] at c10
                    obtain ⟨hE, hA⟩ := add_there hC (by omega)
                    refine awp_skip ?_
                    exact thenQ_cut (sub_re (SubT.cons (lk_eq rfl (by first | rfl | simp)) (SubT.cons (lk_eq rfl (by first | rfl | simp)) (SubT.cons (lk_eq rfl (by first | rfl | simp)) (SubT.cons (lk_eq rfl (by first | rfl | simp)) (SubT.cons (lk_eq rfl (by first | rfl | simp)) (SubT.cons (lk_eq rfl (by first | rfl | simp)) (SubT.cons (lk_eq rfl (by first | rfl | simp)) (SubT.cons (lk_eq rfl (by first | rfl | simp)) (SubT.cons (lk_eq rfl (by first | rfl | simp)) (SubT.cons (lk_eq rfl (by first | rfl | (rw [hE]; try rfl))) (SubT.cons (lk_eq rfl (by first | rfl | simp)) (SubT.cons (lk_eq rfl (by first | rfl | simp)) (SubT.cons (lk_eq rfl (by first | rfl | (rw [hA]; rfl) | (rw [hA]; done) | (rw [hA, show kpDs (l ++ [(⟨n, f⟩ : Kp)]) = kpDs l ++ [kpD ⟨n, f⟩] by rw [kpDs, List.map_append]; rfl]; rfl))) (SubT.nil)))))))))))))) (SubO.cons (ok_eq rfl (by rfl)) (SubO.cons (ok_eq rfl (by rfl)) (SubO.nil))) rfl rfl (noL' (noL hL) _))
                  try simp only [↓cqA, cqB] at c9
                  obtain ⟨hE, hA⟩ := add_bad (l := l) (n := n) (f := f) (fun h => by omega)
                  refine awp_skip ?_
                  exact thenQ_cut (sub_re (SubT.cons (lk_eq rfl (by first | rfl | simp)) (SubT.cons (lk_eq rfl (by first | rfl | simp)) (SubT.cons (lk_eq rfl (by first | rfl | simp)) (SubT.cons (lk_eq rfl (by first | rfl | simp)) (SubT.cons (lk_eq rfl (by first | rfl | simp)) (SubT.cons (lk_eq rfl (by first | rfl | simp)) (SubT.cons (lk_eq rfl (by first | rfl | simp)) (SubT.cons (lk_eq rfl (by first | rfl | simp)) (SubT.cons (lk_eq rfl (by first | rfl | simp)) (SubT.cons (lk_eq rfl (by first | rfl | (rw [hE]; try rfl))) (SubT.cons (lk_eq rfl (by first | rfl | simp)) (SubT.cons (lk_eq rfl (by first | rfl | simp)) (SubT.cons (lk_eq rfl (by first | rfl | (rw [hA]; rfl) | (rw [hA]; done) | (rw [hA, show kpDs (l ++ [(⟨n, f⟩ : Kp)]) = kpDs l ++ [kpD ⟨n, f⟩] by rw [kpDs, List.map_append]; rfl]; rfl))) (SubT.nil)))))))))))))) (SubO.cons (ok_eq rfl (by rfl)) (SubO.cons (ok_eq rfl (by rfl)) (SubO.nil))) rfl rfl (noL' (noL hL) _))
                try simp only [↓cqA, cqB] at g176
                obtain ⟨hE, hA⟩ := add_bad (l := l) (n := n) (f := f) (fun h => by omega)
                refine awps_gs rfl rfl rfl rfl (by decide) rfl (by decide) ?_; refine awps_gs rfl rfl rfl rfl (by decide) rfl (by decide) ?_; refine awps_gs rfl rfl rfl rfl (by decide) rfl (by decide) ?_; refine awps_gs rfl rfl rfl rfl (by decide) rfl (by decide) ?_; refine awps_gs rfl rfl rfl rfl (by decide) rfl (by decide) ?_; refine awps_gs rfl rfl rfl rfl (by decide) rfl (by decide) ?_; refine awps_stp0 rfl rfl (by decide) (stp_pick rfl rfl rfl) ?_; refine awps_nil ?_; refine thenQ_nil ?_; refine awp_condF rfl ?_; refine awp_skip ?_
                exact thenQ_cut (sub_re (SubT.cons (lk_eq rfl (by first | rfl | simp)) (SubT.cons (lk_eq rfl (by first | rfl | simp)) (SubT.cons (lk_eq rfl (by first | rfl | simp)) (SubT.cons (lk_eq rfl (by first | rfl | simp)) (SubT.cons (lk_eq rfl (by first | rfl | simp)) (SubT.cons (lk_eq rfl (by first | rfl | simp)) (SubT.cons (lk_eq rfl (by first | rfl | simp)) (SubT.cons (lk_eq rfl (by first | rfl | simp)) (SubT.cons (lk_eq rfl (by first | rfl | simp)) (SubT.cons (lk_eq rfl (by first | rfl | (rw [hE]; try rfl))) (SubT.cons (lk_eq rfl (by first | rfl | simp)) (SubT.cons (lk_eq rfl (by first | rfl | simp)) (SubT.cons (lk_eq rfl (by first | rfl | (rw [hA]; rfl) | (rw [hA]; done) | (rw [hA, show kpDs (l ++ [(⟨n, f⟩ : Kp)]) = kpDs l ++ [kpD ⟨n, f⟩] by rw [kpDs, List.map_append]; rfl]; rfl))) (SubT.nil)))))))))))))) (SubO.cons (ok_eq rfl (by rfl)) (SubO.cons (ok_eq rfl (by rfl)) (SubO.nil))) rfl rfl (noL' (noL hL) _))
              try simp only [↓cqA, cqB] at g169
              obtain ⟨hE, hA⟩ := add_bad (l := l) (n := n) (f := f) (fun h => by rw [h.2.1] at g169; cases g169)
              refine awps_gs rfl rfl rfl rfl (by decide) rfl (by decide) ?_; refine awps_gs rfl rfl rfl rfl (by decide) rfl (by decide) ?_; refine awps_gs rfl rfl rfl rfl (by decide) rfl (by decide) ?_; refine awps_gs rfl rfl rfl rfl (by decide) rfl (by decide) ?_; refine awps_gs rfl rfl rfl rfl (by decide) rfl (by decide) ?_
              refine awps_stp0 rfl rfl (by decide) (stp_pick rfl rfl rfl) ?_; refine awps_stp0 rfl rfl (by decide) (stp_move (.inl rfl) rfl) ?_; refine awps_gs rfl rfl rfl rfl (by decide) rfl (by decide) ?_; refine awps_gs rfl rfl rfl rfl (by decide) rfl (by decide) ?_; refine awps_gs rfl rfl rfl rfl (by decide) rfl (by decide) ?_
              refine awps_gs rfl rfl rfl rfl (by decide) rfl (by decide) ?_; refine awps_gs rfl rfl rfl rfl (by decide) rfl (by decide) ?_; refine awps_gs rfl rfl rfl rfl (by decide) rfl (by decide) ?_; refine awps_stp0 rfl rfl (by decide) (stp_pick rfl rfl rfl) ?_; refine awps_nil ?_; refine thenQ_nil ?_; refine awp_condF rfl ?_; refine awp_skip ?_
              exact thenQ_cut (sub_re (SubT.cons (lk_eq rfl (by first | rfl | simp)) (SubT.cons (lk_eq rfl (by first | rfl | simp)) (SubT.cons (lk_eq rfl (by first | rfl | simp)) (SubT.cons (lk_eq rfl (by first | rfl | simp)) (SubT.cons (lk_eq rfl (by first | rfl | simp)) (SubT.cons (lk_eq rfl (by first | rfl | simp)) (SubT.cons (lk_eq rfl (by first | rfl | simp)) (SubT.cons (lk_eq rfl (by first | rfl | simp)) (SubT.cons (lk_eq rfl (by first | rfl | simp)) (SubT.cons (lk_eq rfl (by first | rfl | (rw [hE]; try rfl))) (SubT.cons (lk_eq rfl (by first | rfl | simp)) (SubT.cons (lk_eq rfl (by first | rfl | simp)) (SubT.cons (lk_eq rfl (by first | rfl | (rw [hA]; rfl) | (rw [hA]; done) | (rw [hA, show kpDs (l ++ [(⟨n, f⟩ : Kp)]) = kpDs l ++ [kpD ⟨n, f⟩] by rw [kpDs, List.map_append]; rfl]; rfl))) (SubT.nil)))))))))))))) (SubO.cons (ok_eq rfl (by rfl)) (SubO.cons (ok_eq rfl (by rfl)) (SubO.nil))) rfl rfl (noL' (noL hL) _))
            try simp only [↓cqA, cqB] at g166
            obtain ⟨hE, hA⟩ := add_bad (l := l) (n := n) (f := f) (fun h => by rw [h.1] at g166; cases g166)
            refine awps_gs rfl rfl rfl rfl (by decide) rfl (by decide) ?_; refine awps_stp0 rfl rfl (by decide) (stp_pick rfl rfl rfl) ?_; refine awps_stp0 rfl rfl (by decide) (stp_move (.inl rfl) rfl) ?_; refine awps_gs rfl rfl rfl rfl (by decide) rfl (by decide) ?_; refine awps_gs rfl rfl rfl rfl (by decide) rfl (by decide) ?_
            refine awps_gs rfl rfl rfl rfl (by decide) rfl (by decide) ?_; refine awps_gs rfl rfl rfl rfl (by decide) rfl (by decide) ?_; refine awps_gs rfl rfl rfl rfl (by decide) rfl (by decide) ?_; refine awps_stp0 rfl rfl (by decide) (stp_pick rfl rfl rfl) ?_; refine awps_stp0 rfl rfl (by decide) (stp_move (.inl rfl) rfl) ?_
            refine awps_gs rfl rfl rfl rfl (by decide) rfl (by decide) ?_; refine awps_gs rfl rfl rfl rfl (by decide) rfl (by decide) ?_; refine awps_gs rfl rfl rfl rfl (by decide) rfl (by decide) ?_; refine awps_gs rfl rfl rfl rfl (by decide) rfl (by decide) ?_; refine awps_gs rfl rfl rfl rfl (by decide) rfl (by decide) ?_; refine awps_gs rfl rfl rfl rfl (by decide) rfl (by decide) ?_; refine awps_stp0 rfl rfl (by decide) (stp_pick rfl rfl rfl) ?_; refine awps_nil ?_; refine thenQ_nil ?_; refine awp_condF rfl ?_; refine awp_skip ?_
            exact thenQ_cut (sub_re (SubT.cons (lk_eq rfl (by first | rfl | simp)) (SubT.cons (lk_eq rfl (by first | rfl | simp)) (SubT.cons (lk_eq rfl (by first | rfl | simp)) (SubT.cons (lk_eq rfl (by first | rfl | simp)) (SubT.cons (lk_eq rfl (by first | rfl | simp)) (SubT.cons (lk_eq rfl (by first | rfl | simp)) (SubT.cons (lk_eq rfl (by first | rfl | simp)) (SubT.cons (lk_eq rfl (by first | rfl | simp)) (SubT.cons (lk_eq rfl (by first | rfl | simp)) (SubT.cons (lk_eq rfl (by first | rfl | (rw [hE]; try rfl))) (SubT.cons (lk_eq rfl (by first | rfl | simp)) (SubT.cons (lk_eq rfl (by first | rfl | simp)) (SubT.cons (lk_eq rfl (by first | rfl | (rw [hA]; rfl) | (rw [hA]; done) | (rw [hA, show kpDs (l ++ [(⟨n, f⟩ : Kp)]) = kpDs l ++ [kpD ⟨n, f⟩] by rw [kpDs, List.map_append]; rfl]; rfl))) (SubT.nil)))))))))))))) (SubO.cons (ok_eq rfl (by rfl)) (SubO.cons (ok_eq rfl (by rfl)) (SubO.nil))) rfl rfl (noL' (noL hL) _))
          refine awp_seq ?_; refine awp_seq ?_; refine awp_region ?_; refine awps_stp0 rfl rfl (by decide) (stp_move (.inl rfl) rfl) ?_; refine awps_call (avs := [_]) true rfl rfl rfl (by decide) en_almagestlaw9_num rfl rfl (num9_ok _) rfl rfl ?_; refine awps_stp0 rfl rfl (by decide) (stp_move (.inl rfl) rfl) ?_; refine awps_stp0 rfl rfl (by decide) (stp_binI rfl rfl rfl rfl) ?_; refine awps_stp0 rfl rfl (by decide) (stp_move (.inl rfl) rfl) ?_; refine awps_split 208 rfl (fun g208 => ?_) (fun g208 => ?_)
          · try simp only [↓cqA, cqB] at g208
            refine awps_gs rfl rfl rfl rfl (by decide) rfl (by decide) ?_; refine awps_gs rfl rfl rfl rfl (by decide) rfl (by decide) ?_; refine awps_gs rfl rfl rfl rfl (by decide) rfl (by decide) ?_; refine awps_gs rfl rfl rfl rfl (by decide) rfl (by decide) ?_; refine awps_stp0 rfl rfl (by decide) (stp_pick rfl rfl rfl) ?_
            refine awps_stp0 rfl rfl (by decide) (stp_move (.inl rfl) rfl) ?_; refine awps_gs rfl rfl rfl rfl (by decide) rfl (by decide) ?_; refine awps_gs rfl rfl rfl rfl (by decide) rfl (by decide) ?_; refine awps_gs rfl rfl rfl rfl (by decide) rfl (by decide) ?_; refine awps_gs rfl rfl rfl rfl (by decide) rfl (by decide) ?_
            refine awps_gs rfl rfl rfl rfl (by decide) rfl (by decide) ?_; refine awps_stp0 rfl rfl (by decide) (stp_pick rfl rfl rfl) ?_; refine awps_nil ?_; refine thenQ_nil ?_; refine awp_condT rfl ?_; refine awp_seq ?_; refine awp_region ?_; refine awps_stp0 rfl rfl (by decide) (stp_move (.inr rfl) rfl) ?_; refine awps_nil ?_; refine thenQ_nil ?_; refine awp_ret ?_; refine thenQ_ret (inQ_ret (thenQ_ret (thenQ_ret (inQ_ret (thenQ_ret (inQ_ret (thenQ_ret (thenQ_ret (inQ_ret (thenQ_ret (?_)))))))))))
            -- leaf 0Fg54Fg60F2Fg73T3Tg114Fg120F6Fg149T8Tg208T
            refine ret0 (noL hL) (.inl rfl) (resAs_tmp rfl (resAs_nil)) ?_ ?_
            · rfl
            first
            | exact ⟨rfl, rfl⟩
            | exact absurd hsb (by assumption)
            | exact absurd hmb (by assumption)
            | exact absurd trivial (by assumption)
            | exact Bool.noConfusion (show true = false by assumption)
            | trace_state
          try simp only [↓cqA, cqB] at g208
          refine awps_g0 rfl rfl rfl (by decide) rfl (by decide) (stp_move (.inl rfl) rfl) ?_; refine awps_g0 rfl rfl rfl (by decide) rfl (by decide) (stp_move (.inl rfl) rfl) ?_; refine awps_g0 rfl rfl rfl (by decide) rfl (by decide) (stp_call (avs := [_, _]) true rfl en_almagestref0_EqKepts rfl rfl (EqKeptsSelf_ok 5 (addL l n f) addL_dle (addL_wf2 hwL hni wf) (by have := addL_len (l := l) (n := n) (f := f); omega)) (fun _ => rfl) rfl) ?_; refine awps_g0 rfl rfl rfl (by decide) rfl (by decide) (stp_not rfl rfl) ?_
          refine awps_stp0 rfl rfl (by decide) (stp_pick rfl rfl rfl) ?_; refine awps_stp0 rfl rfl (by decide) (stp_move (.inl rfl) rfl) ?_; refine awps_split 214 rfl (fun g214 => ?_) (fun g214 => ?_)
          · try simp only [↓cqA, cqB] at g214
            refine awps_gs rfl rfl rfl rfl (by decide) rfl (by decide) ?_; refine awps_gs rfl rfl rfl rfl (by decide) rfl (by decide) ?_; refine awps_gs rfl rfl rfl rfl (by decide) rfl (by decide) ?_; refine awps_gs rfl rfl rfl rfl (by decide) rfl (by decide) ?_; refine awps_gs rfl rfl rfl rfl (by decide) rfl (by decide) ?_; refine awps_stp0 rfl rfl (by decide) (stp_pick rfl rfl rfl) ?_
            refine awps_nil ?_; refine thenQ_nil ?_; refine awp_condT rfl ?_; refine awp_seq ?_; refine awp_region ?_; refine awps_stp0 rfl rfl (by decide) (stp_move (.inr rfl) rfl) ?_; refine awps_nil ?_; refine thenQ_nil ?_; refine awp_ret ?_; refine thenQ_ret (inQ_ret (thenQ_ret (thenQ_ret (inQ_ret (thenQ_ret (inQ_ret (thenQ_ret (thenQ_ret (inQ_ret (thenQ_ret (?_)))))))))))
            -- leaf 0Fg54Fg60F2Fg73T3Tg114Fg120F6Fg149T8Tg208Fg214T
            refine ret0 (noL hL) (.inl rfl) (resAs_tmp rfl (resAs_nil)) ?_ ?_
            · rfl
            first
            | exact ⟨rfl, rfl⟩
            | exact absurd hsb (by assumption)
            | exact absurd hmb (by assumption)
            | exact absurd trivial (by assumption)
            | exact Bool.noConfusion (show true = false by assumption)
            | trace_state
          try simp only [↓cqA, cqB] at g214
          refine awps_g0 rfl rfl rfl (by decide) rfl (by decide) (stp_move (.inl rfl) rfl) ?_; refine awps_g0 rfl rfl rfl (by decide) rfl (by decide) (stp_fieldAddr rfl fo_almagestlaw9_Ask_0 rfl) ?_; refine awps_g0 rfl rfl rfl (by decide) rfl (by decide) (stp_load rfl tf_S_api_Kept rfl rfl rfl rfl rfl) ?_
          refine awps_g0 rfl rfl rfl (by decide) rfl (by decide) (stp_call (avs := [_, _]) true rfl en_almagestref0_EqKepts rfl rfl (EqKeptsSelf_ok 30 l hv4 hwL (by omega)) (fun _ => rfl) rfl) ?_; refine awps_g0 rfl rfl rfl (by decide) rfl (by decide) (stp_not rfl rfl) ?_; refine awps_stp0 rfl rfl (by decide) (stp_pick rfl rfl rfl) ?_; refine awps_nil ?_; refine thenQ_nil ?_; refine awp_cond rfl (fun c12 => ?_) (fun c12 => ?_)
          · try simp only [↓cqA, cqB] at c12
            refine awp_seq ?_; refine awp_region ?_; refine awps_stp0 rfl rfl (by decide) (stp_move (.inr rfl) rfl) ?_; refine awps_nil ?_; refine thenQ_nil ?_; refine awp_ret ?_; refine thenQ_ret (inQ_ret (thenQ_ret (thenQ_ret (inQ_ret (thenQ_ret (inQ_ret (thenQ_ret (thenQ_ret (inQ_ret (thenQ_ret (?_)))))))))))
            -- leaf 0Fg54Fg60F2Fg73T3Tg114Fg120F6Fg149T8Tg208Fg214F12T
            refine ret0 (noL hL) (.inl rfl) (resAs_tmp rfl (resAs_nil)) ?_ ?_
            · rfl
            first
            | exact ⟨rfl, rfl⟩
            | exact absurd hsb (by assumption)
            | exact absurd hmb (by assumption)
            | exact absurd trivial (by assumption)
            | exact Bool.noConfusion (show true = false by assumption)
            | trace_state
          try simp only [↓cqA, cqB] at c12
          refine awp_skip ?_; refine thenQ_nil ?_; refine awp_seq ?_; refine awp_region ?_; refine awps_stp0 rfl rfl (by decide) (stp_move (.inl rfl) rfl) ?_
          refine awps_sub (sub_re (T1 := [(221, .dat true 7 (kpDs (addL l n f))), (1, .ptr 1 0), (3, .dat false 7 (kpDs l)), (4, bv (listB l)), (9, iv (k : Int)), (10, .ptr 10 0), (11, bv (factB f)), (17, iv (lastS l)), (18, .dat false 1 (inDs (nsL l Z))), (19, iv (j : Int))]) (O1 := [(1, .box (lift false (a9D ⟨l, F, Z⟩))), (10, .box (lift false (ftD f)))]) (SubT.cons rfl (SubT.cons rfl (SubT.cons rfl (SubT.cons rfl (SubT.cons rfl (SubT.cons rfl (SubT.cons rfl (SubT.cons rfl (SubT.cons rfl (SubT.cons rfl SubT.nil)))))))))) (SubO.cons rfl (SubO.cons rfl SubO.nil)) rfl rfl (noL' (noL hL) _)) ?_
          refine awps_spoil rfl rfl rfl (by decide) en_almagestlaw0_Kepts rfl rfl rfl rfl (spoilKepts_ok _ (fun b hb => dlb_of 5 _ (addL_dle b hb) (addL_wf2 hwL hni wf b hb).2.1) (by have := addL_len (l := l) (n := n) (f := f); omega)) (fun b hb => absurd hb (hQ b)) (fun T' O' hT hO => ?_)
          simp only [ShT, ShV] at hT
          obtain ⟨_, _, rfl, _, _, _, rfl, rfl, _, _, rfl, ⟨e3, rfl, h3⟩, _, _, rfl, rfl, _, _, rfl, rfl, _, _, rfl, rfl, _, _, rfl, rfl, _, _, rfl, rfl, _, _, rfl, ⟨e8, rfl, h8⟩, _, _, rfl, rfl, rfl⟩ := hT
          obtain rfl : e3 = _ := by simpa using h3
          obtain rfl : e8 = _ := by simpa using h8
          obtain rfl := shO_boxes hO
          refine awps_nil ?_; refine thenQ_nil ?_; refine awp_seq ?_; refine awp_region ?_; refine awps_stp0 rfl rfl (by decide) (stp_move (.inl rfl) rfl) ?_; refine awps_stp0 rfl rfl (by decide) (stp_fieldAddr rfl fo_almagestlaw9_Ask_0 rfl) ?_; refine awps_stp0 rfl rfl (by decide) (stp_load rfl tf_S_api_Kept rfl rfl rfl rfl rfl) ?_
          refine awps_call (avs := [_, _]) true rfl rfl rfl (by decide) en_almagestref0_EqKepts rfl rfl (EqKeptsSelf_ok 30 l hv4 hwL (by omega)) rfl rfl ?_; refine awps_stp0 rfl rfl (by decide) (stp_not rfl rfl) ?_; refine awps_nil ?_; refine thenQ_nil ?_; refine awp_cond rfl (fun c13 => ?_) (fun c13 => ?_)
          · try simp only [↓cqA, cqB] at c13
            refine awp_seq ?_; refine awp_region ?_; refine awps_stp0 rfl rfl (by decide) (stp_move (.inr rfl) rfl) ?_; refine awps_nil ?_; refine thenQ_nil ?_; refine awp_ret ?_; refine inQ_ret (thenQ_ret (thenQ_ret (inQ_ret (thenQ_ret (inQ_ret (thenQ_ret (thenQ_ret (inQ_ret (thenQ_ret (?_))))))))))
            -- leaf 0Fg54Fg60F2Fg73T3Tg114Fg120F6Fg149T8Tg208Fg214F12F13T
            refine ret0 (noL hL) (.inl rfl) (resAs_tmp rfl (resAs_nil)) ?_ ?_
            · rfl
            first
            | exact ⟨rfl, rfl⟩
            | exact absurd hsb (by assumption)
            | exact absurd hmb (by assumption)
            | exact absurd trivial (by assumption)
            | exact Bool.noConfusion (show true = false by assumption)
            | trace_state
          try simp only [↓cqA, cqB] at c13
          refine awp_skip ?_; refine inQ_nil ?_; refine thenQ_nil ?_; refine awp_region ?_; refine awps_stp0 rfl rfl (by decide) (stp_move (.inl rfl) rfl) ?_; refine awps_stp0 rfl rfl (by decide) (stp_add rfl rfl rfl (by omega)) ?_; refine awps_stp0 rfl rfl (by decide) (stp_move (.inr rfl) rfl) ?_; refine awps_nil ?_; refine thenQ_nil ?_; refine ⟨?_, ?_, ?_⟩
          · skip
            omega
          · skip
            trivial
          exact sub_re (SubT.cons (lk_eq rfl (by first | rfl | simp)) (SubT.cons (lk_eq rfl (by first | rfl | simp)) (SubT.cons (lk_eq rfl (by first | rfl | simp)) (SubT.cons (lk_eq rfl (by first | rfl | simp)) (SubT.cons (lk_eq rfl (by first | rfl | simp)) (SubT.cons (lk_eq rfl (by first | rfl | simp)) (SubT.cons (lk_eq rfl (by first | rfl | simp)) (SubT.cons (lk_eq rfl (by first | rfl | simp)) (SubT.cons (lk_eq rfl (by first | rfl | simp)) (SubT.nil)))))))))) (SubO.cons (ok_eq rfl (by rfl)) (SubO.cons (ok_eq rfl (by rfl)) (SubO.nil))) rfl rfl (noL' (noL hL) _)
        try simp only [↓cqA, cqB] at c8
        refine awp_exit ?_; refine thenQ_exit (thenQ_exit (inQ_hit ?_)); refine thenQ_nil ?_; refine awp_seq ?_; refine awp_region ?_; refine awps_stp0 rfl rfl (by decide) (stp_move (.inl rfl) rfl) ?_; refine awps_stp0 rfl rfl (by decide) (stp_fieldAddr rfl fo_api_Fact_0 rfl) ?_; refine awps_stp0 rfl rfl (by decide) (stp_fieldAddr rfl fo_api_Term_1 rfl) ?_; refine awps_stp0 rfl rfl (by decide) (stp_load rfl tf_string rfl rfl rfl rfl rfl) ?_; refine awps_stp0 rfl rfl (by decide) (stp_fieldAddr rfl fo_api_Fact_0 rfl) ?_
        refine awps_stp0 rfl rfl (by decide) (stp_fieldAddr rfl fo_api_Term_3 rfl) ?_; refine awps_stp0 rfl rfl (by decide) (stp_load rfl tf_S_api_Term rfl rfl rfl rfl rfl) ?_; refine awps_stp0 rfl rfl (by decide) (stp_len_dat rfl sl_S_api_Term rfl) ?_
        refine awps_call (avs := [_, _, _]) false rfl rfl rfl (by decide) en_facts_Named rfl rfl (Named_ok l hwL f.t.name ((tmDs f.t.args).length : Int)) rfl rfl ?_; refine awps_stp0 rfl rfl (by decide) (stp_move (.inl rfl) rfl) ?_; refine awps_stp0 rfl rfl (by decide) (stp_extract rfl rfl rfl) ?_; refine awps_stp0 rfl rfl (by decide) (stp_extract rfl rfl rfl) ?_
        refine awps_stp0 rfl rfl (by decide) (stp_move (.inr rfl) rfl) ?_; refine awps_stp0 rfl rfl (by decide) (stp_move (.inr rfl) rfl) ?_; refine awps_nil ?_; refine thenQ_nil ?_; refine awp_seq ?_; refine awp_region ?_; refine awps_stp0 rfl rfl (by decide) (stp_move (.inr rfl) rfl) ?_; refine awps_nil ?_; refine thenQ_nil ?_; refine awp_seq ?_; refine awp_region ?_; refine awps_stp0 rfl rfl (by decide) (stp_move (.inr rfl) rfl) ?_; refine awps_nil ?_; refine thenQ_nil ?_
        refine awp_cut ⟨[(1, .ptr 1 0), (3, .dat false 7 (kpDs l)), (4, bv (listB l)), (9, iv (k : Int)), (14, iv (someE l)), (23, .dat false 7 (kpDs (someL l (nmB f.t.name ((tmDs f.t.args).length : Int))))), (24, iv (someE l)), (25, .dat true 7 (kpDs (someL l (nmB f.t.name ((tmDs f.t.args).length : Int)))))], [(1, .box (lift false (a9D ⟨l, F, Z⟩)))]⟩ ?_ ?_
        · skip
          refine awp_seq ?_; refine awp_sub (sub_nil_dat (t := 25) 7 true rfl) ?_; refine awp_region ?_; refine awps_stp0 rfl rfl (by decide) (stp_move (.inl rfl) rfl) ?_; refine awps_nil ?_; refine thenQ_nil ?_; refine awp_cond rfl (fun c14 => ?_) (fun c14 => ?_)
          · try simp only [↓cqA, cqB] at c14
            obtain ⟨hl3, hlm⟩ := listB_may c14
            have hE : someE l = 0 := by rw [someE, if_pos c14]
            have hA : someL l (nmB f.t.name ((tmDs f.t.args).length : Int)) = l.filter (fun k => nmB f.t.name ((tmDs f.t.args).length : Int) k.f) := by rw [someL, if_pos c14]
            refine awp_region ?_; refine awps_stp0 rfl rfl (by decide) (stp_fieldAddr rfl fo_almagestlaw9_Ask_0 rfl) ?_; refine awps_stp0 rfl rfl (by decide) (stp_load rfl tf_S_api_Kept rfl rfl rfl rfl rfl) ?_; refine awps_stp0 rfl rfl (by decide) (stp_fieldAddr rfl fo_api_Fact_0 rfl) ?_; refine awps_stp0 rfl rfl (by decide) (stp_fieldAddr rfl fo_api_Term_1 rfl) ?_; refine awps_stp0 rfl rfl (by decide) (stp_load rfl tf_string rfl rfl rfl rfl rfl) ?_; refine awps_stp0 rfl rfl (by decide) (stp_fieldAddr rfl fo_api_Fact_0 rfl) ?_
            refine awps_stp0 rfl rfl (by decide) (stp_fieldAddr rfl fo_api_Term_3 rfl) ?_; refine awps_stp0 rfl rfl (by decide) (stp_load rfl tf_S_api_Term rfl rfl rfl rfl rfl) ?_; refine awps_stp0 rfl rfl (by decide) (stp_len_dat rfl sl_S_api_Term rfl) ?_
            refine awps_call (avs := [_, _, _]) true rfl rfl rfl (by decide) en_almagestref7_Named rfl rfl (rNamed7_ok l (by omega) (fun b hb => (fact_parts (hlm b hb)).2.2) hwL f.t.name ((tmDs f.t.args).length : Int)) rfl rfl ?_; refine awps_stp0 rfl rfl (by decide) (stp_move (.inr rfl) rfl) ?_; refine awps_stp0 rfl rfl (by decide) (stp_move (.inr rfl) rfl) ?_; refine awps_nil ?_
            exact thenQ_cut (sub_re (SubT.cons (lk_eq rfl (by first | rfl | simp)) (SubT.cons (lk_eq rfl (by first | rfl | simp)) (SubT.cons (lk_eq rfl (by first | rfl | simp)) (SubT.cons (lk_eq rfl (by first | rfl | simp)) (SubT.cons (lk_eq rfl (by first | rfl | (rw [hE]; try rfl))) (SubT.cons (lk_eq rfl (by first | rfl | simp)) (SubT.cons (lk_eq rfl (by first | rfl | simp)) (SubT.cons (lk_eq rfl (by first | rfl | (rw [hA]; try rfl))) (SubT.nil))))))))) (SubO.cons (ok_eq rfl (by rfl)) (SubO.nil)) rfl rfl (noL' (noL hL) _))
          try simp only [↓cqA, cqB] at c14
          have hE : someE l = 1 := by rw [someE, if_neg (by simp [c14])]
          have hA : someL l (nmB f.t.name ((tmDs f.t.args).length : Int)) = [] := by rw [someL, if_neg (by simp [c14])]
          refine awp_skip ?_
          exact thenQ_cut (sub_re (SubT.cons (lk_eq rfl (by first | rfl | simp)) (SubT.cons (lk_eq rfl (by first | rfl | simp)) (SubT.cons (lk_eq rfl (by first | rfl | simp)) (SubT.cons (lk_eq rfl (by first | rfl | simp)) (SubT.cons (lk_eq rfl (by first | rfl | (rw [hE]; try rfl))) (SubT.cons (lk_eq rfl (by first | rfl | simp)) (SubT.cons (lk_eq rfl (by first | rfl | simp)) (SubT.cons (lk_eq rfl (by first | rfl | (rw [hA]; try rfl))) (SubT.nil))))))))) (SubO.cons (ok_eq rfl (by rfl)) (SubO.nil)) rfl rfl (noL' (noL hL) _))
        refine awp_seq ?_; refine awp_region ?_; refine awps_stp0 rfl rfl (by decide) (stp_move (.inl rfl) rfl) ?_; refine awps_call (avs := [_]) true rfl rfl rfl (by decide) en_almagestlaw9_num rfl rfl (num9_ok _) rfl rfl ?_; refine awps_stp0 rfl rfl (by decide) (stp_move (.inl rfl) rfl) ?_; refine awps_stp0 rfl rfl (by decide) (stp_binI rfl rfl rfl rfl) ?_; refine awps_stp0 rfl rfl (by decide) (stp_move (.inl rfl) rfl) ?_; refine awps_split 255 rfl (fun g255 => ?_) (fun g255 => ?_)
        · try simp only [↓cqA, cqB] at g255
          refine awps_gs rfl rfl rfl rfl (by decide) rfl (by decide) ?_; refine awps_gs rfl rfl rfl rfl (by decide) rfl (by decide) ?_; refine awps_gs rfl rfl rfl rfl (by decide) rfl (by decide) ?_; refine awps_gs rfl rfl rfl rfl (by decide) rfl (by decide) ?_; refine awps_stp0 rfl rfl (by decide) (stp_pick rfl rfl rfl) ?_; refine awps_nil ?_; refine thenQ_nil ?_; refine awp_condT rfl ?_
          refine awp_seq ?_; refine awp_region ?_; refine awps_stp0 rfl rfl (by decide) (stp_move (.inr rfl) rfl) ?_; refine awps_nil ?_; refine thenQ_nil ?_; refine awp_ret ?_; refine inQ_ret (thenQ_ret (thenQ_ret (inQ_ret (thenQ_ret (?_)))))
          -- leaf 0Fg54Fg60F2Fg73T3Tg114Fg120F6Fg149T8Fg255T
          refine ret0 (noL hL) (.inl rfl) (resAs_tmp rfl (resAs_nil)) ?_ ?_
          · rfl
          first
          | exact ⟨rfl, rfl⟩
          | exact absurd hsb (by assumption)
          | exact absurd hmb (by assumption)
          | exact absurd trivial (by assumption)
          | exact Bool.noConfusion (show true = false by assumption)
          | trace_state
        try simp only [↓cqA, cqB] at g255
        refine awps_g0 rfl rfl rfl (by decide) rfl (by decide) (stp_move (.inl rfl) rfl) ?_; refine awps_g0 rfl rfl rfl (by decide) rfl (by decide) (stp_move (.inl rfl) rfl) ?_; refine awps_g0 rfl rfl rfl (by decide) rfl (by decide) (stp_call (avs := [_, _]) true rfl en_almagestref0_EqKepts rfl rfl (EqKeptsSelf_ok 5 (someL l (nmB f.t.name ((tmDs f.t.args).length : Int))) someL_dle (someL_wf hwL) (by have := someL_len (l := l) (p := nmB f.t.name ((tmDs f.t.args).length : Int)); omega)) (fun _ => rfl) rfl) ?_
        refine awps_g0 rfl rfl rfl (by decide) rfl (by decide) (stp_not rfl rfl) ?_; refine awps_stp0 rfl rfl (by decide) (stp_pick rfl rfl rfl) ?_; refine awps_nil ?_; refine thenQ_nil ?_; refine awp_cond rfl (fun c15 => ?_) (fun c15 => ?_)
        · try simp only [↓cqA, cqB] at c15
          refine awp_seq ?_; refine awp_region ?_; refine awps_stp0 rfl rfl (by decide) (stp_move (.inr rfl) rfl) ?_; refine awps_nil ?_; refine thenQ_nil ?_; refine awp_ret ?_; refine inQ_ret (thenQ_ret (thenQ_ret (inQ_ret (thenQ_ret (?_)))))
          -- leaf 0Fg54Fg60F2Fg73T3Tg114Fg120F6Fg149T8Fg255F15T
          refine ret0 (noL hL) (.inl rfl) (resAs_tmp rfl (resAs_nil)) ?_ ?_
          · rfl
          first
          | exact ⟨rfl, rfl⟩
          | exact absurd hsb (by assumption)
          | exact absurd hmb (by assumption)
          | exact absurd trivial (by assumption)
          | exact Bool.noConfusion (show true = false by assumption)
          | trace_state
        try simp only [↓cqA, cqB] at c15
        refine awp_skip ?_; refine inQ_nil ?_; refine thenQ_nil ?_; refine awp_region ?_; refine awps_stp0 rfl rfl (by decide) (stp_move (.inl rfl) rfl) ?_; refine awps_stp0 rfl rfl (by decide) (stp_add rfl rfl rfl (by omega)) ?_; refine awps_stp0 rfl rfl (by decide) (stp_move (.inr rfl) rfl) ?_; refine awps_nil ?_; refine thenQ_nil ?_; refine ⟨?_, ?_, ?_⟩
        · skip
          omega
        · skip
          trivial
        exact sub_re (SubT.cons (lk_eq rfl (by first | rfl | simp)) (SubT.cons (lk_eq rfl (by first | rfl | simp)) (SubT.cons (lk_eq rfl (by first | rfl | simp)) (SubT.cons (lk_eq rfl (by first | rfl | simp)) (SubT.nil))))) (SubO.cons (ok_eq rfl (by rfl)) (SubO.nil)) rfl rfl (noL' (noL hL) _)
      try simp only [↓cqA, cqB] at g149
      refine awps_gs rfl rfl rfl rfl (by decide) rfl (by decide) ?_; refine awps_gs rfl rfl rfl rfl (by decide) rfl (by decide) ?_; refine awps_stp0 rfl rfl (by decide) (stp_pick rfl rfl rfl) ?_; refine awps_nil ?_; refine thenQ_nil ?_; refine awp_condF rfl ?_; refine awp_exit ?_; refine thenQ_exit (thenQ_exit (inQ_hit ?_)); refine thenQ_nil ?_; refine awp_seq ?_; refine awp_region ?_; refine awps_stp0 rfl rfl (by decide) (stp_move (.inl rfl) rfl) ?_; refine awps_stp0 rfl rfl (by decide) (stp_fieldAddr rfl fo_api_Fact_0 rfl) ?_
      refine awps_stp0 rfl rfl (by decide) (stp_fieldAddr rfl fo_api_Term_1 rfl) ?_; refine awps_stp0 rfl rfl (by decide) (stp_load rfl tf_string rfl rfl rfl rfl rfl) ?_; refine awps_stp0 rfl rfl (by decide) (stp_fieldAddr rfl fo_api_Fact_0 rfl) ?_; refine awps_stp0 rfl rfl (by decide) (stp_fieldAddr rfl fo_api_Term_3 rfl) ?_; refine awps_stp0 rfl rfl (by decide) (stp_load rfl tf_S_api_Term rfl rfl rfl rfl rfl) ?_; refine awps_stp0 rfl rfl (by decide) (stp_len_dat rfl sl_S_api_Term rfl) ?_
      refine awps_call (avs := [_, _, _]) false rfl rfl rfl (by decide) en_facts_Named rfl rfl (Named_ok l hwL f.t.name ((tmDs f.t.args).length : Int)) rfl rfl ?_; refine awps_stp0 rfl rfl (by decide) (stp_move (.inl rfl) rfl) ?_; refine awps_stp0 rfl rfl (by decide) (stp_extract rfl rfl rfl) ?_; refine awps_stp0 rfl rfl (by decide) (stp_extract rfl rfl rfl) ?_
      refine awps_stp0 rfl rfl (by decide) (stp_move (.inr rfl) rfl) ?_; refine awps_stp0 rfl rfl (by decide) (stp_move (.inr rfl) rfl) ?_; refine awps_nil ?_; refine thenQ_nil ?_; refine awp_seq ?_; refine awp_region ?_; refine awps_stp0 rfl rfl (by decide) (stp_move (.inr rfl) rfl) ?_; refine awps_nil ?_; refine thenQ_nil ?_; refine awp_seq ?_; refine awp_region ?_; refine awps_stp0 rfl rfl (by decide) (stp_move (.inr rfl) rfl) ?_; refine awps_nil ?_; refine thenQ_nil ?_
      refine awp_cut ⟨[(1, .ptr 1 0), (3, .dat false 7 (kpDs l)), (4, bv (listB l)), (9, iv (k : Int)), (14, iv (someE l)), (23, .dat false 7 (kpDs (someL l (nmB f.t.name ((tmDs f.t.args).length : Int))))), (24, iv (someE l)), (25, .dat true 7 (kpDs (someL l (nmB f.t.name ((tmDs f.t.args).length : Int)))))], [(1, .box (lift false (a9D ⟨l, F, Z⟩)))]⟩ ?_ ?_
      · skip
        refine awp_seq ?_; refine awp_sub (sub_nil_dat (t := 25) 7 true rfl) ?_; refine awp_region ?_; refine awps_stp0 rfl rfl (by decide) (stp_move (.inl rfl) rfl) ?_; refine awps_nil ?_; refine thenQ_nil ?_; refine awp_cond rfl (fun c14 => ?_) (fun c14 => ?_)
        · try simp only [↓cqA, cqB] at c14
          obtain ⟨hl3, hlm⟩ := listB_may c14
          have hE : someE l = 0 := by rw [someE, if_pos c14]
          have hA : someL l (nmB f.t.name ((tmDs f.t.args).length : Int)) = l.filter (fun k => nmB f.t.name ((tmDs f.t.args).length : Int) k.f) := by rw [someL, if_pos c14]
          refine awp_region ?_; refine awps_stp0 rfl rfl (by decide) (stp_fieldAddr rfl fo_almagestlaw9_Ask_0 rfl) ?_; refine awps_stp0 rfl rfl (by decide) (stp_load rfl tf_S_api_Kept rfl rfl rfl rfl rfl) ?_; refine awps_stp0 rfl rfl (by decide) (stp_fieldAddr rfl fo_api_Fact_0 rfl) ?_; refine awps_stp0 rfl rfl (by decide) (stp_fieldAddr rfl fo_api_Term_1 rfl) ?_; refine awps_stp0 rfl rfl (by decide) (stp_load rfl tf_string rfl rfl rfl rfl rfl) ?_; refine awps_stp0 rfl rfl (by decide) (stp_fieldAddr rfl fo_api_Fact_0 rfl) ?_
          refine awps_stp0 rfl rfl (by decide) (stp_fieldAddr rfl fo_api_Term_3 rfl) ?_; refine awps_stp0 rfl rfl (by decide) (stp_load rfl tf_S_api_Term rfl rfl rfl rfl rfl) ?_; refine awps_stp0 rfl rfl (by decide) (stp_len_dat rfl sl_S_api_Term rfl) ?_
          refine awps_call (avs := [_, _, _]) true rfl rfl rfl (by decide) en_almagestref7_Named rfl rfl (rNamed7_ok l (by omega) (fun b hb => (fact_parts (hlm b hb)).2.2) hwL f.t.name ((tmDs f.t.args).length : Int)) rfl rfl ?_; refine awps_stp0 rfl rfl (by decide) (stp_move (.inr rfl) rfl) ?_; refine awps_stp0 rfl rfl (by decide) (stp_move (.inr rfl) rfl) ?_; refine awps_nil ?_
          exact thenQ_cut (sub_re (SubT.cons (lk_eq rfl (by first | rfl | simp)) (SubT.cons (lk_eq rfl (by first | rfl | simp)) (SubT.cons (lk_eq rfl (by first | rfl | simp)) (SubT.cons (lk_eq rfl (by first | rfl | simp)) (SubT.cons (lk_eq rfl (by first | rfl | (rw [hE]; try rfl))) (SubT.cons (lk_eq rfl (by first | rfl | simp)) (SubT.cons (lk_eq rfl (by first | rfl | simp)) (SubT.cons (lk_eq rfl (by first | rfl | (rw [hA]; try rfl))) (SubT.nil))))))))) (SubO.cons (ok_eq rfl (by rfl)) (SubO.nil)) rfl rfl (noL' (noL hL) _))
        try simp only [↓cqA, cqB] at c14
        have hE : someE l = 1 := by rw [someE, if_neg (by simp [c14])]
        have hA : someL l (nmB f.t.name ((tmDs f.t.args).length : Int)) = [] := by rw [someL, if_neg (by simp [c14])]
        refine awp_skip ?_
        exact thenQ_cut (sub_re (SubT.cons (lk_eq rfl (by first | rfl | simp)) (SubT.cons (lk_eq rfl (by first | rfl | simp)) (SubT.cons (lk_eq rfl (by first | rfl | simp)) (SubT.cons (lk_eq rfl (by first | rfl | simp)) (SubT.cons (lk_eq rfl (by first | rfl | (rw [hE]; try rfl))) (SubT.cons (lk_eq rfl (by first | rfl | simp)) (SubT.cons (lk_eq rfl (by first | rfl | simp)) (SubT.cons (lk_eq rfl (by first | rfl | (rw [hA]; try rfl))) (SubT.nil))))))))) (SubO.cons (ok_eq rfl (by rfl)) (SubO.nil)) rfl rfl (noL' (noL hL) _))
      refine awp_seq ?_; refine awp_region ?_; refine awps_stp0 rfl rfl (by decide) (stp_move (.inl rfl) rfl) ?_; refine awps_call (avs := [_]) true rfl rfl rfl (by decide) en_almagestlaw9_num rfl rfl (num9_ok _) rfl rfl ?_; refine awps_stp0 rfl rfl (by decide) (stp_move (.inl rfl) rfl) ?_; refine awps_stp0 rfl rfl (by decide) (stp_binI rfl rfl rfl rfl) ?_; refine awps_stp0 rfl rfl (by decide) (stp_move (.inl rfl) rfl) ?_; refine awps_split 255 rfl (fun g255 => ?_) (fun g255 => ?_)
      · try simp only [↓cqA, cqB] at g255
        refine awps_gs rfl rfl rfl rfl (by decide) rfl (by decide) ?_; refine awps_gs rfl rfl rfl rfl (by decide) rfl (by decide) ?_; refine awps_gs rfl rfl rfl rfl (by decide) rfl (by decide) ?_; refine awps_gs rfl rfl rfl rfl (by decide) rfl (by decide) ?_; refine awps_stp0 rfl rfl (by decide) (stp_pick rfl rfl rfl) ?_; refine awps_nil ?_; refine thenQ_nil ?_; refine awp_condT rfl ?_
        refine awp_seq ?_; refine awp_region ?_; refine awps_stp0 rfl rfl (by decide) (stp_move (.inr rfl) rfl) ?_; refine awps_nil ?_; refine thenQ_nil ?_; refine awp_ret ?_; refine inQ_ret (thenQ_ret (thenQ_ret (inQ_ret (thenQ_ret (?_)))))
        -- leaf 0Fg54Fg60F2Fg73T3Tg114Fg120F6Fg149Fg255T
        refine ret0 (noL hL) (.inl rfl) (resAs_tmp rfl (resAs_nil)) ?_ ?_
        · rfl
        first
        | exact ⟨rfl, rfl⟩
        | exact absurd hsb (by assumption)
        | exact absurd hmb (by assumption)
        | exact absurd trivial (by assumption)
        | exact Bool.noConfusion (show true = false by assumption)
        | trace_state
      try simp only [↓cqA, cqB] at g255
      refine awps_g0 rfl rfl rfl (by decide) rfl (by decide) (stp_move (.inl rfl) rfl) ?_; refine awps_g0 rfl rfl rfl (by decide) rfl (by decide) (stp_move (.inl rfl) rfl) ?_; refine awps_g0 rfl rfl rfl (by decide) rfl (by decide) (stp_call (avs := [_, _]) true rfl en_almagestref0_EqKepts rfl rfl (EqKeptsSelf_ok 5 (someL l (nmB f.t.name ((tmDs f.t.args).length : Int))) someL_dle (someL_wf hwL) (by have := someL_len (l := l) (p := nmB f.t.name ((tmDs f.t.args).length : Int)); omega)) (fun _ => rfl) rfl) ?_
      refine awps_g0 rfl rfl rfl (by decide) rfl (by decide) (stp_not rfl rfl) ?_; refine awps_stp0 rfl rfl (by decide) (stp_pick rfl rfl rfl) ?_; refine awps_nil ?_; refine thenQ_nil ?_; refine awp_cond rfl (fun c15 => ?_) (fun c15 => ?_)
      · try simp only [↓cqA, cqB] at c15
        refine awp_seq ?_; refine awp_region ?_; refine awps_stp0 rfl rfl (by decide) (stp_move (.inr rfl) rfl) ?_; refine awps_nil ?_; refine thenQ_nil ?_; refine awp_ret ?_; refine inQ_ret (thenQ_ret (thenQ_ret (inQ_ret (thenQ_ret (?_)))))
        -- leaf 0Fg54Fg60F2Fg73T3Tg114Fg120F6Fg149Fg255F15T
        refine ret0 (noL hL) (.inl rfl) (resAs_tmp rfl (resAs_nil)) ?_ ?_
        · rfl
        first
        | exact ⟨rfl, rfl⟩
        | exact absurd hsb (by assumption)
        | exact absurd hmb (by assumption)
        | exact absurd trivial (by assumption)
        | exact Bool.noConfusion (show true = false by assumption)
        | trace_state
      try simp only [↓cqA, cqB] at c15
      refine awp_skip ?_; refine inQ_nil ?_; refine thenQ_nil ?_; refine awp_region ?_; refine awps_stp0 rfl rfl (by decide) (stp_move (.inl rfl) rfl) ?_; refine awps_stp0 rfl rfl (by decide) (stp_add rfl rfl rfl (by omega)) ?_; refine awps_stp0 rfl rfl (by decide) (stp_move (.inr rfl) rfl) ?_; refine awps_nil ?_; refine thenQ_nil ?_; refine ⟨?_, ?_, ?_⟩
      · skip
        omega
      · skip
        trivial
      exact sub_re (SubT.cons (lk_eq rfl (by first | rfl | simp)) (SubT.cons (lk_eq rfl (by first | rfl | simp)) (SubT.cons (lk_eq rfl (by first | rfl | simp)) (SubT.cons (lk_eq rfl (by first | rfl | simp)) (SubT.nil))))) (SubO.cons (ok_eq rfl (by rfl)) (SubO.nil)) rfl rfl (noL' (noL hL) _)
    try simp only [↓cqA, cqB] at c3
    refine awp_exit ?_; refine thenQ_exit (thenQ_exit (inQ_hit ?_)); refine thenQ_nil ?_; refine awp_seq ?_; refine awp_seq ?_; refine awp_region ?_; refine awps_stp0 rfl rfl (by decide) (stp_move (.inr rfl) rfl) ?_; refine awps_nil ?_; refine thenQ_nil ?_; refine awp_block ?_; refine awp_while (8) (fun _ => True) (fun q => ⟨[(1, .ptr 1 0), (3, .dat false 7 (kpDs l)), (4, bv (listB l)), (26, iv (q : Int))], [(1, .box (lift false (a9D ⟨l, F, Z⟩)))]⟩) (trivial) ?_ (fun q hq hpq => ?_)
    · exact sub_re (SubT.cons (lk_eq rfl (by first | rfl | simp)) (SubT.cons (lk_eq rfl (by first | rfl | simp)) (SubT.cons (lk_eq rfl (by first | rfl | simp)) (SubT.cons (lk_eq rfl (by first | rfl | simp)) (SubT.nil))))) (SubO.cons (ok_eq rfl (by rfl)) (SubO.nil)) rfl rfl (noL' (noL hL) _)
    refine awp_seq ?_; refine awp_seq ?_; refine awp_region ?_; refine awps_stp0 rfl rfl (by decide) (stp_move (.inl rfl) rfl) ?_; refine awps_stp0 rfl rfl (by decide) (stp_fieldAddr rfl fo_almagestlaw9_Ask_2 rfl) ?_; refine awps_stp0 rfl rfl (by decide) (stp_load rfl tf_S_int rfl rfl rfl rfl rfl) ?_; refine awps_stp0 rfl rfl (by decide) (stp_len_dat rfl sl_S_int rfl) ?_; refine awps_stp0 rfl rfl (by decide) (stp_binI rfl rfl rfl rfl) ?_; refine awps_stp0 rfl rfl (by decide) (stp_move (.inl rfl) rfl) ?_; refine awps_split 266 rfl (fun g266 => ?_) (fun g266 => ?_)
    · try simp only [↓cqA, cqB] at g266
      refine awps_g0 rfl rfl rfl (by decide) rfl (by decide) (stp_move (.inl rfl) rfl) ?_; refine awps_g0 rfl rfl rfl (by decide) rfl (by decide) (stp_binI rfl rfl rfl rfl) ?_; refine awps_stp0 rfl rfl (by decide) (stp_pick rfl rfl rfl) ?_; refine awps_nil ?_; refine thenQ_nil ?_; refine awp_cond rfl (fun c16 => ?_) (fun c16 => ?_)
      · try simp only [↓cqA, cqB] at c16
        obtain ⟨t, ht⟩ := get_of_lt (l := Z) (k := q) (by omega)
        refine awp_skip ?_; refine thenQ_nil ?_; refine awp_seq ?_; refine awp_block ?_; refine awp_seq ?_; refine awp_region ?_; refine awps_stp0 rfl rfl (by decide) (stp_move (.inl rfl) rfl) ?_; refine awps_stp0 rfl rfl (by decide) (stp_fieldAddr rfl fo_almagestlaw9_Ask_2 rfl) ?_; refine awps_stp0 rfl rfl (by decide) (stp_load rfl tf_S_int rfl rfl rfl rfl rfl) ?_; refine awps_stp0 rfl rfl (by decide) (stp_move (.inl rfl) rfl) ?_; refine awps_stp0 rfl rfl (by decide) (stp_indexAddr rfl sl_S_int rfl rfl (by omega) (inDs_get ht)) ?_
        refine awps_stp0 rfl rfl (by decide) (stp_load_elp1 rfl tf_int rfl) ?_; refine awps_call (avs := [_, _]) false rfl rfl rfl (by decide) en_facts_Since rfl rfl (Since_ok l hwL t) rfl rfl ?_; refine awps_stp0 rfl rfl (by decide) (stp_move (.inl rfl) rfl) ?_; refine awps_stp0 rfl rfl (by decide) (stp_extract rfl rfl rfl) ?_; refine awps_stp0 rfl rfl (by decide) (stp_extract rfl rfl rfl) ?_; refine awps_stp0 rfl rfl (by decide) (stp_move (.inr rfl) rfl) ?_
        refine awps_stp0 rfl rfl (by decide) (stp_move (.inr rfl) rfl) ?_; refine awps_nil ?_; refine thenQ_nil ?_; refine awp_seq ?_; refine awp_region ?_; refine awps_stp0 rfl rfl (by decide) (stp_move (.inr rfl) rfl) ?_; refine awps_nil ?_; refine thenQ_nil ?_; refine awp_seq ?_; refine awp_region ?_; refine awps_stp0 rfl rfl (by decide) (stp_move (.inr rfl) rfl) ?_; refine awps_nil ?_
        refine thenQ_nil ?_; refine awp_cut ⟨[(1, .ptr 1 0), (3, .dat false 7 (kpDs l)), (4, bv (listB l)), (26, iv (q : Int)), (27, .dat false 7 (kpDs (someL l (sinceB t)))), (28, iv (someE l)), (29, iv (someE l)), (30, .dat true 7 (kpDs (someL l (sinceB t))))], [(1, .box (lift false (a9D ⟨l, F, Z⟩)))]⟩ ?_ ?_
        · skip
          refine awp_seq ?_; refine awp_sub (sub_nil_dat (t := 30) 7 true rfl) ?_; refine awp_region ?_; refine awps_stp0 rfl rfl (by decide) (stp_move (.inl rfl) rfl) ?_; refine awps_nil ?_; refine thenQ_nil ?_; refine awp_cond rfl (fun c17 => ?_) (fun c17 => ?_)
          · try simp only [↓cqA, cqB] at c17
            obtain ⟨hl3, hlm⟩ := listB_may c17
            have hE : someE l = 0 := by rw [someE, if_pos c17]
            have hA : someL l (sinceB t) = l.filter (fun k => sinceB t k.f) := by rw [someL, if_pos c17]
            refine awp_drawG 7 mixed rfl rfl rfl rfl ?_; refine MGo_c0 rfl (by decide) (.run rfl (stp_fieldAddr rfl fo_almagestlaw9_Ask_0 rfl)) ?_; refine MGo_c0 rfl (by decide) (.run rfl (stp_load rfl tf_S_api_Kept rfl rfl rfl rfl rfl)) ?_; refine MGo_c0 rfl (by decide) (.run rfl (stp_fieldAddr rfl fo_almagestlaw9_Ask_2 rfl)) ?_; refine MGo_c0 rfl (by decide) (.run rfl (stp_load rfl tf_S_int rfl rfl rfl rfl rfl)) ?_; refine MGo_c0 rfl (by decide) (.run rfl (stp_move (.inl rfl) rfl)) ?_
            refine MGo_c0 rfl (by decide) (.run rfl (stp_indexAddr rfl sl_S_int rfl rfl (by omega) (inDs_get ht))) ?_; refine MGo_c0 rfl (by decide) (.run rfl (stp_load_elp1 rfl tf_int rfl)) ?_; refine MGo_nil ⟨rfl, rfl, ?_⟩; refine awps_call (avs := [_, _]) true rfl rfl rfl (by decide) en_almagestref7_Since rfl rfl (rSince7_ok l (by omega) (fun b hb => (fact_parts (hlm b hb)).2.2) hwL t) rfl rfl ?_; refine awps_stp0 rfl rfl (by decide) (stp_move (.inr rfl) rfl) ?_; refine awps_stp0 rfl rfl (by decide) (stp_move (.inr rfl) rfl) ?_; refine awps_nil ?_
            exact thenQ_cut (sub_re (SubT.cons (lk_eq rfl (by first | rfl | simp)) (SubT.cons (lk_eq rfl (by first | rfl | simp)) (SubT.cons (lk_eq rfl (by first | rfl | simp)) (SubT.cons (lk_eq rfl (by first | rfl | simp)) (SubT.cons (lk_eq rfl (by first | rfl | simp)) (SubT.cons (lk_eq rfl (by first | rfl | simp)) (SubT.cons (lk_eq rfl (by first | rfl | (rw [hE]; try rfl))) (SubT.cons (lk_eq rfl (by first | rfl | (rw [hA]; try rfl))) (SubT.nil))))))))) (SubO.cons (ok_eq rfl (by rfl)) (SubO.nil)) rfl rfl (noL' (noL hL) _))
          try simp only [↓cqA, cqB] at c17
          have hE : someE l = 1 := by rw [someE, if_neg (by simp [c17])]
          have hA : someL l (sinceB t) = [] := by rw [someL, if_neg (by simp [c17])]
          refine awp_skip ?_
          exact thenQ_cut (sub_re (SubT.cons (lk_eq rfl (by first | rfl | simp)) (SubT.cons (lk_eq rfl (by first | rfl | simp)) (SubT.cons (lk_eq rfl (by first | rfl | simp)) (SubT.cons (lk_eq rfl (by first | rfl | simp)) (SubT.cons (lk_eq rfl (by first | rfl | simp)) (SubT.cons (lk_eq rfl (by first | rfl | simp)) (SubT.cons (lk_eq rfl (by first | rfl | (rw [hE]; try rfl))) (SubT.cons (lk_eq rfl (by first | rfl | (rw [hA]; try rfl))) (SubT.nil))))))))) (SubO.cons (ok_eq rfl (by rfl)) (SubO.nil)) rfl rfl (noL' (noL hL) _))
        refine awp_seq ?_; refine awp_region ?_; refine awps_stp0 rfl rfl (by decide) (stp_move (.inl rfl) rfl) ?_; refine awps_call (avs := [_]) true rfl rfl rfl (by decide) en_almagestlaw9_num rfl rfl (num9_ok _) rfl rfl ?_; refine awps_stp0 rfl rfl (by decide) (stp_move (.inl rfl) rfl) ?_; refine awps_stp0 rfl rfl (by decide) (stp_binI rfl rfl rfl rfl) ?_; refine awps_stp0 rfl rfl (by decide) (stp_move (.inl rfl) rfl) ?_; refine awps_split 295 rfl (fun g295 => ?_) (fun g295 => ?_)
        · try simp only [↓cqA, cqB] at g295
          refine awps_gs rfl rfl rfl rfl (by decide) rfl (by decide) ?_; refine awps_gs rfl rfl rfl rfl (by decide) rfl (by decide) ?_; refine awps_gs rfl rfl rfl rfl (by decide) rfl (by decide) ?_; refine awps_gs rfl rfl rfl rfl (by decide) rfl (by decide) ?_; refine awps_stp0 rfl rfl (by decide) (stp_pick rfl rfl rfl) ?_; refine awps_nil ?_; refine thenQ_nil ?_; refine awp_condT rfl ?_
          refine awp_seq ?_; refine awp_region ?_; refine awps_stp0 rfl rfl (by decide) (stp_move (.inr rfl) rfl) ?_; refine awps_nil ?_; refine thenQ_nil ?_; refine awp_ret ?_; refine inQ_ret (thenQ_ret (thenQ_ret (inQ_ret (thenQ_ret (?_)))))
          -- leaf 0Fg54Fg60F2Fg73T3Fg266T16Tg295T
          refine ret0 (noL hL) (.inl rfl) (resAs_tmp rfl (resAs_nil)) ?_ ?_
          · rfl
          first
          | exact ⟨rfl, rfl⟩
          | exact absurd hsb (by assumption)
          | exact absurd hmb (by assumption)
          | exact absurd trivial (by assumption)
          | exact Bool.noConfusion (show true = false by assumption)
          | trace_state
        try simp only [↓cqA, cqB] at g295
        refine awps_g0 rfl rfl rfl (by decide) rfl (by decide) (stp_move (.inl rfl) rfl) ?_; refine awps_g0 rfl rfl rfl (by decide) rfl (by decide) (stp_move (.inl rfl) rfl) ?_; refine awps_g0 rfl rfl rfl (by decide) rfl (by decide) (stp_call (avs := [_, _]) true rfl en_almagestref0_EqKepts rfl rfl (EqKeptsSelf_ok 5 (someL l (sinceB t)) someL_dle (someL_wf hwL) (by have := someL_len (l := l) (p := sinceB t); omega)) (fun _ => rfl) rfl) ?_; refine awps_g0 rfl rfl rfl (by decide) rfl (by decide) (stp_not rfl rfl) ?_
        refine awps_stp0 rfl rfl (by decide) (stp_pick rfl rfl rfl) ?_; refine awps_nil ?_; refine thenQ_nil ?_; refine awp_cond rfl (fun c18 => ?_) (fun c18 => ?_)
        · try simp only [↓cqA, cqB] at c18
          refine awp_seq ?_; refine awp_region ?_; refine awps_stp0 rfl rfl (by decide) (stp_move (.inr rfl) rfl) ?_; refine awps_nil ?_; refine thenQ_nil ?_; refine awp_ret ?_; refine inQ_ret (thenQ_ret (thenQ_ret (inQ_ret (thenQ_ret (?_)))))
          -- leaf 0Fg54Fg60F2Fg73T3Fg266T16Tg295F18T
          refine ret0 (noL hL) (.inl rfl) (resAs_tmp rfl (resAs_nil)) ?_ ?_
          · rfl
          first
          | exact ⟨rfl, rfl⟩
          | exact absurd hsb (by assumption)
          | exact absurd hmb (by assumption)
          | exact absurd trivial (by assumption)
          | exact Bool.noConfusion (show true = false by assumption)
          | trace_state
        try simp only [↓cqA, cqB] at c18
        refine awp_skip ?_; refine inQ_nil ?_; refine thenQ_nil ?_; refine awp_region ?_; refine awps_stp0 rfl rfl (by decide) (stp_move (.inl rfl) rfl) ?_; refine awps_stp0 rfl rfl (by decide) (stp_add rfl rfl rfl (by omega)) ?_; refine awps_stp0 rfl rfl (by decide) (stp_move (.inr rfl) rfl) ?_; refine awps_nil ?_; refine thenQ_nil ?_; refine ⟨?_, ?_, ?_⟩
        · skip
          omega
        · skip
          trivial
        exact sub_re (SubT.cons (lk_eq rfl (by first | rfl | simp)) (SubT.cons (lk_eq rfl (by first | rfl | simp)) (SubT.cons (lk_eq rfl (by first | rfl | simp)) (SubT.cons (lk_eq rfl (by first | rfl | simp)) (SubT.nil))))) (SubO.cons (ok_eq rfl (by rfl)) (SubO.nil)) rfl rfl (noL' (noL hL) _)
      try simp only [↓cqA, cqB] at c16
      refine awp_exit ?_; refine thenQ_exit (thenQ_exit (inQ_hit ?_)); refine thenQ_nil ?_; refine awp_seq ?_; refine awp_region ?_; refine awps_stp0 rfl rfl (by decide) (stp_move (.inl rfl) rfl) ?_; refine awps_stp0 rfl rfl (by decide) (stp_fieldAddr rfl fo_almagestlaw9_Ask_0 rfl) ?_; refine awps_stp0 rfl rfl (by decide) (stp_load rfl tf_S_api_Kept rfl rfl rfl rfl rfl) ?_
      refine awps_call (avs := [_, _]) true rfl rfl rfl (by decide) en_almagestref0_EqKepts rfl rfl (EqKeptsSelf_ok 30 l hv4 hwL (by omega)) rfl rfl ?_; refine awps_stp0 rfl rfl (by decide) (stp_move (.inl rfl) rfl) ?_; refine awps_split 305 rfl (fun g305 => ?_) (fun g305 => ?_)
      · try simp only [↓cqA, cqB] at g305
        refine awps_g0 rfl rfl rfl (by decide) rfl (by decide) (stp_call (avs := []) true rfl en_almagestlaw9_wakes rfl rfl (wakes9_ok) (fun _ => rfl) rfl) ?_; refine awps_stp0 rfl rfl (by decide) (stp_pick rfl rfl rfl) ?_; refine awps_stp0 rfl rfl (by decide) (stp_move (.inr rfl) rfl) ?_; refine awps_nil ?_; refine thenQ_nil ?_; refine awp_ret ?_
        -- leaf 0Fg54Fg60F2Fg73T3Fg266T16Fg305T
        refine ret0 (noL hL) (.inl rfl) (resAs_tmp rfl (resAs_nil)) ?_ ?_
        · rfl
        first
        | exact ⟨rfl, rfl⟩
        | exact absurd hsb (by assumption)
        | exact absurd hmb (by assumption)
        | exact absurd trivial (by assumption)
        | exact Bool.noConfusion (show true = false by assumption)
        | trace_state
      try simp only [↓cqA, cqB] at g305
      refine awps_gs rfl rfl rfl rfl (by decide) rfl (by decide) ?_; refine awps_stp0 rfl rfl (by decide) (stp_pick rfl rfl rfl) ?_; refine awps_stp0 rfl rfl (by decide) (stp_move (.inr rfl) rfl) ?_; refine awps_nil ?_; refine thenQ_nil ?_; refine awp_ret ?_
      -- leaf 0Fg54Fg60F2Fg73T3Fg266T16Fg305F
      refine ret0 (noL hL) (.inl rfl) (resAs_tmp rfl (resAs_nil)) ?_ ?_
      · rfl
      first
      | exact ⟨rfl, rfl⟩
      | exact absurd hsb (by assumption)
      | exact absurd hmb (by assumption)
      | exact absurd trivial (by assumption)
      | exact Bool.noConfusion (show true = false by assumption)
      | trace_state
    try simp only [↓cqA, cqB] at g266
    refine awps_gs rfl rfl rfl rfl (by decide) rfl (by decide) ?_; refine awps_gs rfl rfl rfl rfl (by decide) rfl (by decide) ?_; refine awps_stp0 rfl rfl (by decide) (stp_pick rfl rfl rfl) ?_; refine awps_nil ?_; refine thenQ_nil ?_; refine awp_condF rfl ?_; refine awp_exit ?_; refine thenQ_exit (thenQ_exit (inQ_hit ?_)); refine thenQ_nil ?_; refine awp_seq ?_; refine awp_region ?_; refine awps_stp0 rfl rfl (by decide) (stp_move (.inl rfl) rfl) ?_; refine awps_stp0 rfl rfl (by decide) (stp_fieldAddr rfl fo_almagestlaw9_Ask_0 rfl) ?_
    refine awps_stp0 rfl rfl (by decide) (stp_load rfl tf_S_api_Kept rfl rfl rfl rfl rfl) ?_; refine awps_call (avs := [_, _]) true rfl rfl rfl (by decide) en_almagestref0_EqKepts rfl rfl (EqKeptsSelf_ok 30 l hv4 hwL (by omega)) rfl rfl ?_; refine awps_stp0 rfl rfl (by decide) (stp_move (.inl rfl) rfl) ?_; refine awps_split 305 rfl (fun g305 => ?_) (fun g305 => ?_)
    · try simp only [↓cqA, cqB] at g305
      refine awps_g0 rfl rfl rfl (by decide) rfl (by decide) (stp_call (avs := []) true rfl en_almagestlaw9_wakes rfl rfl (wakes9_ok) (fun _ => rfl) rfl) ?_; refine awps_stp0 rfl rfl (by decide) (stp_pick rfl rfl rfl) ?_; refine awps_stp0 rfl rfl (by decide) (stp_move (.inr rfl) rfl) ?_; refine awps_nil ?_; refine thenQ_nil ?_; refine awp_ret ?_
      -- leaf 0Fg54Fg60F2Fg73T3Fg266Fg305T
      refine ret0 (noL hL) (.inl rfl) (resAs_tmp rfl (resAs_nil)) ?_ ?_
      · rfl
      first
      | exact ⟨rfl, rfl⟩
      | exact absurd hsb (by assumption)
      | exact absurd hmb (by assumption)
      | exact absurd trivial (by assumption)
      | exact Bool.noConfusion (show true = false by assumption)
      | trace_state
    try simp only [↓cqA, cqB] at g305
    refine awps_gs rfl rfl rfl rfl (by decide) rfl (by decide) ?_; refine awps_stp0 rfl rfl (by decide) (stp_pick rfl rfl rfl) ?_; refine awps_stp0 rfl rfl (by decide) (stp_move (.inr rfl) rfl) ?_; refine awps_nil ?_; refine thenQ_nil ?_; refine awp_ret ?_
    -- leaf 0Fg54Fg60F2Fg73T3Fg266Fg305F
    refine ret0 (noL hL) (.inl rfl) (resAs_tmp rfl (resAs_nil)) ?_ ?_
    · rfl
    first
    | exact ⟨rfl, rfl⟩
    | exact absurd hsb (by assumption)
    | exact absurd hmb (by assumption)
    | exact absurd trivial (by assumption)
    | exact Bool.noConfusion (show true = false by assumption)
    | trace_state
  try simp only [↓cqA, cqB] at g73
  refine awps_gs rfl rfl rfl rfl (by decide) rfl (by decide) ?_; refine awps_gs rfl rfl rfl rfl (by decide) rfl (by decide) ?_; refine awps_stp0 rfl rfl (by decide) (stp_pick rfl rfl rfl) ?_; refine awps_nil ?_; refine thenQ_nil ?_; refine awp_condF rfl ?_; refine awp_exit ?_; refine thenQ_exit (thenQ_exit (inQ_hit ?_)); refine thenQ_nil ?_; refine awp_seq ?_; refine awp_seq ?_
  refine awp_region ?_; refine awps_stp0 rfl rfl (by decide) (stp_move (.inr rfl) rfl) ?_; refine awps_nil ?_; refine thenQ_nil ?_; refine awp_block ?_; refine awp_while (8) (fun _ => True) (fun q => ⟨[(1, .ptr 1 0), (3, .dat false 7 (kpDs l)), (4, bv (listB l)), (26, iv (q : Int))], [(1, .box (lift false (a9D ⟨l, F, Z⟩)))]⟩) (trivial) ?_ (fun q hq hpq => ?_)
  · exact sub_re (SubT.cons (lk_eq rfl (by first | rfl | simp)) (SubT.cons (lk_eq rfl (by first | rfl | simp)) (SubT.cons (lk_eq rfl (by first | rfl | simp)) (SubT.cons (lk_eq rfl (by first | rfl | simp)) (SubT.nil))))) (SubO.cons (ok_eq rfl (by rfl)) (SubO.nil)) rfl rfl (noL' (noL hL) _)
  refine awp_seq ?_; refine awp_seq ?_; refine awp_region ?_; refine awps_stp0 rfl rfl (by decide) (stp_move (.inl rfl) rfl) ?_; refine awps_stp0 rfl rfl (by decide) (stp_fieldAddr rfl fo_almagestlaw9_Ask_2 rfl) ?_; refine awps_stp0 rfl rfl (by decide) (stp_load rfl tf_S_int rfl rfl rfl rfl rfl) ?_; refine awps_stp0 rfl rfl (by decide) (stp_len_dat rfl sl_S_int rfl) ?_; refine awps_stp0 rfl rfl (by decide) (stp_binI rfl rfl rfl rfl) ?_; refine awps_stp0 rfl rfl (by decide) (stp_move (.inl rfl) rfl) ?_; refine awps_split 266 rfl (fun g266 => ?_) (fun g266 => ?_)
  · try simp only [↓cqA, cqB] at g266
    refine awps_g0 rfl rfl rfl (by decide) rfl (by decide) (stp_move (.inl rfl) rfl) ?_; refine awps_g0 rfl rfl rfl (by decide) rfl (by decide) (stp_binI rfl rfl rfl rfl) ?_; refine awps_stp0 rfl rfl (by decide) (stp_pick rfl rfl rfl) ?_; refine awps_nil ?_; refine thenQ_nil ?_; refine awp_cond rfl (fun c16 => ?_) (fun c16 => ?_)
    · try simp only [↓cqA, cqB] at c16
      obtain ⟨t, ht⟩ := get_of_lt (l := Z) (k := q) (by omega)
      refine awp_skip ?_; refine thenQ_nil ?_; refine awp_seq ?_; refine awp_block ?_; refine awp_seq ?_; refine awp_region ?_; refine awps_stp0 rfl rfl (by decide) (stp_move (.inl rfl) rfl) ?_; refine awps_stp0 rfl rfl (by decide) (stp_fieldAddr rfl fo_almagestlaw9_Ask_2 rfl) ?_; refine awps_stp0 rfl rfl (by decide) (stp_load rfl tf_S_int rfl rfl rfl rfl rfl) ?_; refine awps_stp0 rfl rfl (by decide) (stp_move (.inl rfl) rfl) ?_; refine awps_stp0 rfl rfl (by decide) (stp_indexAddr rfl sl_S_int rfl rfl (by omega) (inDs_get ht)) ?_
      refine awps_stp0 rfl rfl (by decide) (stp_load_elp1 rfl tf_int rfl) ?_; refine awps_call (avs := [_, _]) false rfl rfl rfl (by decide) en_facts_Since rfl rfl (Since_ok l hwL t) rfl rfl ?_; refine awps_stp0 rfl rfl (by decide) (stp_move (.inl rfl) rfl) ?_; refine awps_stp0 rfl rfl (by decide) (stp_extract rfl rfl rfl) ?_; refine awps_stp0 rfl rfl (by decide) (stp_extract rfl rfl rfl) ?_; refine awps_stp0 rfl rfl (by decide) (stp_move (.inr rfl) rfl) ?_
      refine awps_stp0 rfl rfl (by decide) (stp_move (.inr rfl) rfl) ?_; refine awps_nil ?_; refine thenQ_nil ?_; refine awp_seq ?_; refine awp_region ?_; refine awps_stp0 rfl rfl (by decide) (stp_move (.inr rfl) rfl) ?_; refine awps_nil ?_; refine thenQ_nil ?_; refine awp_seq ?_; refine awp_region ?_; refine awps_stp0 rfl rfl (by decide) (stp_move (.inr rfl) rfl) ?_; refine awps_nil ?_
      refine thenQ_nil ?_; refine awp_cut ⟨[(1, .ptr 1 0), (3, .dat false 7 (kpDs l)), (4, bv (listB l)), (26, iv (q : Int)), (27, .dat false 7 (kpDs (someL l (sinceB t)))), (28, iv (someE l)), (29, iv (someE l)), (30, .dat true 7 (kpDs (someL l (sinceB t))))], [(1, .box (lift false (a9D ⟨l, F, Z⟩)))]⟩ ?_ ?_
      · skip
        refine awp_seq ?_; refine awp_sub (sub_nil_dat (t := 30) 7 true rfl) ?_; refine awp_region ?_; refine awps_stp0 rfl rfl (by decide) (stp_move (.inl rfl) rfl) ?_; refine awps_nil ?_; refine thenQ_nil ?_; refine awp_cond rfl (fun c17 => ?_) (fun c17 => ?_)
        · try simp only [↓cqA, cqB] at c17
          obtain ⟨hl3, hlm⟩ := listB_may c17
          have hE : someE l = 0 := by rw [someE, if_pos c17]
          have hA : someL l (sinceB t) = l.filter (fun k => sinceB t k.f) := by rw [someL, if_pos c17]
          refine awp_drawG 7 mixed rfl rfl rfl rfl ?_; refine MGo_c0 rfl (by decide) (.run rfl (stp_fieldAddr rfl fo_almagestlaw9_Ask_0 rfl)) ?_; refine MGo_c0 rfl (by decide) (.run rfl (stp_load rfl tf_S_api_Kept rfl rfl rfl rfl rfl)) ?_; refine MGo_c0 rfl (by decide) (.run rfl (stp_fieldAddr rfl fo_almagestlaw9_Ask_2 rfl)) ?_; refine MGo_c0 rfl (by decide) (.run rfl (stp_load rfl tf_S_int rfl rfl rfl rfl rfl)) ?_; refine MGo_c0 rfl (by decide) (.run rfl (stp_move (.inl rfl) rfl)) ?_
          refine MGo_c0 rfl (by decide) (.run rfl (stp_indexAddr rfl sl_S_int rfl rfl (by omega) (inDs_get ht))) ?_; refine MGo_c0 rfl (by decide) (.run rfl (stp_load_elp1 rfl tf_int rfl)) ?_; refine MGo_nil ⟨rfl, rfl, ?_⟩; refine awps_call (avs := [_, _]) true rfl rfl rfl (by decide) en_almagestref7_Since rfl rfl (rSince7_ok l (by omega) (fun b hb => (fact_parts (hlm b hb)).2.2) hwL t) rfl rfl ?_; refine awps_stp0 rfl rfl (by decide) (stp_move (.inr rfl) rfl) ?_; refine awps_stp0 rfl rfl (by decide) (stp_move (.inr rfl) rfl) ?_; refine awps_nil ?_
          exact thenQ_cut (sub_re (SubT.cons (lk_eq rfl (by first | rfl | simp)) (SubT.cons (lk_eq rfl (by first | rfl | simp)) (SubT.cons (lk_eq rfl (by first | rfl | simp)) (SubT.cons (lk_eq rfl (by first | rfl | simp)) (SubT.cons (lk_eq rfl (by first | rfl | simp)) (SubT.cons (lk_eq rfl (by first | rfl | simp)) (SubT.cons (lk_eq rfl (by first | rfl | (rw [hE]; try rfl))) (SubT.cons (lk_eq rfl (by first | rfl | (rw [hA]; try rfl))) (SubT.nil))))))))) (SubO.cons (ok_eq rfl (by rfl)) (SubO.nil)) rfl rfl (noL' (noL hL) _))
        try simp only [↓cqA, cqB] at c17
        have hE : someE l = 1 := by rw [someE, if_neg (by simp [c17])]
        have hA : someL l (sinceB t) = [] := by rw [someL, if_neg (by simp [c17])]
        refine awp_skip ?_
        exact thenQ_cut (sub_re (SubT.cons (lk_eq rfl (by first | rfl | simp)) (SubT.cons (lk_eq rfl (by first | rfl | simp)) (SubT.cons (lk_eq rfl (by first | rfl | simp)) (SubT.cons (lk_eq rfl (by first | rfl | simp)) (SubT.cons (lk_eq rfl (by first | rfl | simp)) (SubT.cons (lk_eq rfl (by first | rfl | simp)) (SubT.cons (lk_eq rfl (by first | rfl | (rw [hE]; try rfl))) (SubT.cons (lk_eq rfl (by first | rfl | (rw [hA]; try rfl))) (SubT.nil))))))))) (SubO.cons (ok_eq rfl (by rfl)) (SubO.nil)) rfl rfl (noL' (noL hL) _))
      refine awp_seq ?_; refine awp_region ?_; refine awps_stp0 rfl rfl (by decide) (stp_move (.inl rfl) rfl) ?_; refine awps_call (avs := [_]) true rfl rfl rfl (by decide) en_almagestlaw9_num rfl rfl (num9_ok _) rfl rfl ?_; refine awps_stp0 rfl rfl (by decide) (stp_move (.inl rfl) rfl) ?_; refine awps_stp0 rfl rfl (by decide) (stp_binI rfl rfl rfl rfl) ?_; refine awps_stp0 rfl rfl (by decide) (stp_move (.inl rfl) rfl) ?_; refine awps_split 295 rfl (fun g295 => ?_) (fun g295 => ?_)
      · try simp only [↓cqA, cqB] at g295
        refine awps_gs rfl rfl rfl rfl (by decide) rfl (by decide) ?_; refine awps_gs rfl rfl rfl rfl (by decide) rfl (by decide) ?_; refine awps_gs rfl rfl rfl rfl (by decide) rfl (by decide) ?_; refine awps_gs rfl rfl rfl rfl (by decide) rfl (by decide) ?_; refine awps_stp0 rfl rfl (by decide) (stp_pick rfl rfl rfl) ?_; refine awps_nil ?_; refine thenQ_nil ?_; refine awp_condT rfl ?_
        refine awp_seq ?_; refine awp_region ?_; refine awps_stp0 rfl rfl (by decide) (stp_move (.inr rfl) rfl) ?_; refine awps_nil ?_; refine thenQ_nil ?_; refine awp_ret ?_; refine inQ_ret (thenQ_ret (thenQ_ret (inQ_ret (thenQ_ret (?_)))))
        -- leaf 0Fg54Fg60F2Fg73Fg266T16Tg295T
        refine ret0 (noL hL) (.inl rfl) (resAs_tmp rfl (resAs_nil)) ?_ ?_
        · rfl
        first
        | exact ⟨rfl, rfl⟩
        | exact absurd hsb (by assumption)
        | exact absurd hmb (by assumption)
        | exact absurd trivial (by assumption)
        | exact Bool.noConfusion (show true = false by assumption)
        | trace_state
      try simp only [↓cqA, cqB] at g295
      refine awps_g0 rfl rfl rfl (by decide) rfl (by decide) (stp_move (.inl rfl) rfl) ?_; refine awps_g0 rfl rfl rfl (by decide) rfl (by decide) (stp_move (.inl rfl) rfl) ?_; refine awps_g0 rfl rfl rfl (by decide) rfl (by decide) (stp_call (avs := [_, _]) true rfl en_almagestref0_EqKepts rfl rfl (EqKeptsSelf_ok 5 (someL l (sinceB t)) someL_dle (someL_wf hwL) (by have := someL_len (l := l) (p := sinceB t); omega)) (fun _ => rfl) rfl) ?_; refine awps_g0 rfl rfl rfl (by decide) rfl (by decide) (stp_not rfl rfl) ?_
      refine awps_stp0 rfl rfl (by decide) (stp_pick rfl rfl rfl) ?_; refine awps_nil ?_; refine thenQ_nil ?_; refine awp_cond rfl (fun c18 => ?_) (fun c18 => ?_)
      · try simp only [↓cqA, cqB] at c18
        refine awp_seq ?_; refine awp_region ?_; refine awps_stp0 rfl rfl (by decide) (stp_move (.inr rfl) rfl) ?_; refine awps_nil ?_; refine thenQ_nil ?_; refine awp_ret ?_; refine inQ_ret (thenQ_ret (thenQ_ret (inQ_ret (thenQ_ret (?_)))))
        -- leaf 0Fg54Fg60F2Fg73Fg266T16Tg295F18T
        refine ret0 (noL hL) (.inl rfl) (resAs_tmp rfl (resAs_nil)) ?_ ?_
        · rfl
        first
        | exact ⟨rfl, rfl⟩
        | exact absurd hsb (by assumption)
        | exact absurd hmb (by assumption)
        | exact absurd trivial (by assumption)
        | exact Bool.noConfusion (show true = false by assumption)
        | trace_state
      try simp only [↓cqA, cqB] at c18
      refine awp_skip ?_; refine inQ_nil ?_; refine thenQ_nil ?_; refine awp_region ?_; refine awps_stp0 rfl rfl (by decide) (stp_move (.inl rfl) rfl) ?_; refine awps_stp0 rfl rfl (by decide) (stp_add rfl rfl rfl (by omega)) ?_; refine awps_stp0 rfl rfl (by decide) (stp_move (.inr rfl) rfl) ?_; refine awps_nil ?_; refine thenQ_nil ?_; refine ⟨?_, ?_, ?_⟩
      · skip
        omega
      · skip
        trivial
      exact sub_re (SubT.cons (lk_eq rfl (by first | rfl | simp)) (SubT.cons (lk_eq rfl (by first | rfl | simp)) (SubT.cons (lk_eq rfl (by first | rfl | simp)) (SubT.cons (lk_eq rfl (by first | rfl | simp)) (SubT.nil))))) (SubO.cons (ok_eq rfl (by rfl)) (SubO.nil)) rfl rfl (noL' (noL hL) _)
    try simp only [↓cqA, cqB] at c16
    refine awp_exit ?_; refine thenQ_exit (thenQ_exit (inQ_hit ?_)); refine thenQ_nil ?_; refine awp_seq ?_; refine awp_region ?_; refine awps_stp0 rfl rfl (by decide) (stp_move (.inl rfl) rfl) ?_; refine awps_stp0 rfl rfl (by decide) (stp_fieldAddr rfl fo_almagestlaw9_Ask_0 rfl) ?_; refine awps_stp0 rfl rfl (by decide) (stp_load rfl tf_S_api_Kept rfl rfl rfl rfl rfl) ?_
    refine awps_call (avs := [_, _]) true rfl rfl rfl (by decide) en_almagestref0_EqKepts rfl rfl (EqKeptsSelf_ok 30 l hv4 hwL (by omega)) rfl rfl ?_; refine awps_stp0 rfl rfl (by decide) (stp_move (.inl rfl) rfl) ?_; refine awps_split 305 rfl (fun g305 => ?_) (fun g305 => ?_)
    · try simp only [↓cqA, cqB] at g305
      refine awps_g0 rfl rfl rfl (by decide) rfl (by decide) (stp_call (avs := []) true rfl en_almagestlaw9_wakes rfl rfl (wakes9_ok) (fun _ => rfl) rfl) ?_; refine awps_stp0 rfl rfl (by decide) (stp_pick rfl rfl rfl) ?_; refine awps_stp0 rfl rfl (by decide) (stp_move (.inr rfl) rfl) ?_; refine awps_nil ?_; refine thenQ_nil ?_; refine awp_ret ?_
      -- leaf 0Fg54Fg60F2Fg73Fg266T16Fg305T
      refine ret0 (noL hL) (.inl rfl) (resAs_tmp rfl (resAs_nil)) ?_ ?_
      · rfl
      first
      | exact ⟨rfl, rfl⟩
      | exact absurd hsb (by assumption)
      | exact absurd hmb (by assumption)
      | exact absurd trivial (by assumption)
      | exact Bool.noConfusion (show true = false by assumption)
      | trace_state
    try simp only [↓cqA, cqB] at g305
    refine awps_gs rfl rfl rfl rfl (by decide) rfl (by decide) ?_; refine awps_stp0 rfl rfl (by decide) (stp_pick rfl rfl rfl) ?_; refine awps_stp0 rfl rfl (by decide) (stp_move (.inr rfl) rfl) ?_; refine awps_nil ?_; refine thenQ_nil ?_; refine awp_ret ?_
    -- leaf 0Fg54Fg60F2Fg73Fg266T16Fg305F
    refine ret0 (noL hL) (.inl rfl) (resAs_tmp rfl (resAs_nil)) ?_ ?_
    · rfl
    first
    | exact ⟨rfl, rfl⟩
    | exact absurd hsb (by assumption)
    | exact absurd hmb (by assumption)
    | exact absurd trivial (by assumption)
    | exact Bool.noConfusion (show true = false by assumption)
    | trace_state
  try simp only [↓cqA, cqB] at g266
  refine awps_gs rfl rfl rfl rfl (by decide) rfl (by decide) ?_; refine awps_gs rfl rfl rfl rfl (by decide) rfl (by decide) ?_; refine awps_stp0 rfl rfl (by decide) (stp_pick rfl rfl rfl) ?_; refine awps_nil ?_; refine thenQ_nil ?_; refine awp_condF rfl ?_; refine awp_exit ?_; refine thenQ_exit (thenQ_exit (inQ_hit ?_)); refine thenQ_nil ?_; refine awp_seq ?_; refine awp_region ?_; refine awps_stp0 rfl rfl (by decide) (stp_move (.inl rfl) rfl) ?_; refine awps_stp0 rfl rfl (by decide) (stp_fieldAddr rfl fo_almagestlaw9_Ask_0 rfl) ?_
  refine awps_stp0 rfl rfl (by decide) (stp_load rfl tf_S_api_Kept rfl rfl rfl rfl rfl) ?_; refine awps_call (avs := [_, _]) true rfl rfl rfl (by decide) en_almagestref0_EqKepts rfl rfl (EqKeptsSelf_ok 30 l hv4 hwL (by omega)) rfl rfl ?_; refine awps_stp0 rfl rfl (by decide) (stp_move (.inl rfl) rfl) ?_; refine awps_split 305 rfl (fun g305 => ?_) (fun g305 => ?_)
  · try simp only [↓cqA, cqB] at g305
    refine awps_g0 rfl rfl rfl (by decide) rfl (by decide) (stp_call (avs := []) true rfl en_almagestlaw9_wakes rfl rfl (wakes9_ok) (fun _ => rfl) rfl) ?_; refine awps_stp0 rfl rfl (by decide) (stp_pick rfl rfl rfl) ?_; refine awps_stp0 rfl rfl (by decide) (stp_move (.inr rfl) rfl) ?_; refine awps_nil ?_; refine thenQ_nil ?_; refine awp_ret ?_
    -- leaf 0Fg54Fg60F2Fg73Fg266Fg305T
    refine ret0 (noL hL) (.inl rfl) (resAs_tmp rfl (resAs_nil)) ?_ ?_
    · rfl
    first
    | exact ⟨rfl, rfl⟩
    | exact absurd hsb (by assumption)
    | exact absurd hmb (by assumption)
    | exact absurd trivial (by assumption)
    | exact Bool.noConfusion (show true = false by assumption)
    | trace_state
  try simp only [↓cqA, cqB] at g305
  refine awps_gs rfl rfl rfl rfl (by decide) rfl (by decide) ?_; refine awps_stp0 rfl rfl (by decide) (stp_pick rfl rfl rfl) ?_; refine awps_stp0 rfl rfl (by decide) (stp_move (.inr rfl) rfl) ?_; refine awps_nil ?_; refine thenQ_nil ?_; refine awp_ret ?_
  -- leaf 0Fg54Fg60F2Fg73Fg266Fg305F
  refine ret0 (noL hL) (.inl rfl) (resAs_tmp rfl (resAs_nil)) ?_ ?_
  · rfl
  first
  | exact ⟨rfl, rfl⟩
  | exact absurd hsb (by assumption)
  | exact absurd hmb (by assumption)
  | exact absurd trivial (by assumption)
  | exact Bool.noConfusion (show true = false by assumption)
  | trace_state
end Go.Proofs.YtdecgkhdbfgldaaGreat
