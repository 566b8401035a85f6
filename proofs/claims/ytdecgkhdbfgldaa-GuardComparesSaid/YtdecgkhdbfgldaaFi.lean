/- Walks: how much is asked of. -/
import Derived.Test.YtdecgkhdbfgldaaFh
import Derived.Test.YtdecgkhdbfgldaaDatb
set_option linter.unusedVariables false
set_option linter.unusedSimpArgs false
set_option maxRecDepth 8000
namespace Go.Proofs.Ytdecgkhdbfgldaa
open Go


theorem wgtL_ge' {α : Type} (f : α → Int) : ∀ (n : Int) (l : List α), (∀ t, t ∈ l → 0 ≤ f t) → n ≤ wgtL f n l
  | n, [], _ => by simp [wgtL]
  | n, a :: l, h => by
    simp only [wgtL]
    split
    · have := wgtL_ge' f (n + f a) l (fun t ht => h t (by simp [ht]))
      have := h a (by simp); omega
    · omega
def wT (t : Tm) : Int := wgt 30 t
def wTs (l : List Tm) : Int := wgtL wT l.length l
theorem wT_range (t : Tm) (h : t.wf) : 0 ≤ wT t ∧ wT t ≤ 4362862138900000 := by
  have h1 := wgt_ge 30 t
  have h2 := wgt_le 30 t h
  simp only [wT]; omega
theorem TermWeight30_ok (u : Tm) (h : u.wf) : PF 54 [tmA false u, iv 30] (iv (wT u)) := TermWeight_ok 30 (by omega) _ rfl u h
theorem Terms_ok (l : List Tm) (hl : lenOk l) (hw : Tm.wfs l) : PF 66 [.dat false 4 (tmDs l)] (iv (wTs l)) := by
  have hlen := tmDs_length l
  have hF : ∀ u, u ∈ l → 0 ≤ wT u ∧ wT u ≤ 4362862138900000 := fun u hu => wT_range u (Tm.wfs_mem hw hu)
  simp only [lenOk] at hl
  refine AC_intro Try.func66 rfl Try.ntmps66 (Nat.le_of_ble_eq_true rfl) fun c hL => ?_
  refine awp_seq ?_
  refine awp_region ?_
  refine awps_stp0 rfl rfl (by decide) (stp_move (.inr rfl) rfl) ?_
  refine awps_nil ?_
  refine thenQ_nil ?_
  refine awp_seq ?_
  refine awp_region ?_
  refine awps_stp0 rfl rfl (by decide) (stp_move (.inl rfl) rfl) ?_
  first | refine awps_stp0 rfl rfl (by decide) (stp_len_dat rfl sl_S_api_Term rfl) ?_ | refine awps_stp0 rfl rfl (by decide) (stp_len_rowd rfl sl_S_api_Term rfl rfl) ?_ | refine awps_stp0 rfl rfl (by decide) (stp_len_nil rfl sl_S_api_Term rfl) ?_
  refine awps_stp0 rfl rfl (by decide) (stp_move (.inr rfl) rfl) ?_
  refine awps_nil ?_
  refine thenQ_nil ?_
  refine awp_seq ?_
  refine awp_seq ?_
  refine awp_region ?_
  refine awps_stp0 rfl rfl (by decide) (stp_move (.inr rfl) rfl) ?_
  refine awps_nil ?_
  refine thenQ_nil ?_
  refine awp_block ?_
  refine awp_while (l.length) (fun k => k ≤ l.length ∧ ∀ j, j < k → wgtL wT l.length (l.take j) < 1048576) (fun k => ⟨[(0, .dat false 4 (tmDs l)), (3, iv (wgtL wT l.length (l.take k))), (4, iv (k : Int))], []⟩) (⟨by omega, fun j hj => absurd hj (by omega)⟩) ?_ (fun k hk hp => ?_)
  · exact sub_re (SubT.cons (lk_eq rfl (by first | rfl | simp)) (SubT.cons (lk_eq rfl (by exact int_imm (by simp only [List.take_zero, wgtL]; omega))) (SubT.cons (lk_eq rfl (by first | rfl | simp)) (SubT.nil)))) (SubO.nil) rfl rfl (noL' (noL hL) _)
  have hwk := wgtL_le wT 4362862138900000 (by omega) l.length (l.take k) (fun u hu => (hF u (List.mem_of_mem_take hu)).2) (by omega)
  have hw0 := wgtL_ge' wT l.length (l.take k) (fun u hu => (hF u (List.mem_of_mem_take hu)).1)
  refine awp_seq ?_
  refine awp_seq ?_
  refine awp_region ?_
  refine awps_stp0 rfl rfl (by decide) (stp_move (.inl rfl) rfl) ?_
  refine awps_stp0 rfl rfl (by decide) (stp_move (.inl rfl) rfl) ?_
  first | refine awps_stp0 rfl rfl (by decide) (stp_len_dat rfl sl_S_api_Term rfl) ?_ | refine awps_stp0 rfl rfl (by decide) (stp_len_rowd rfl sl_S_api_Term rfl rfl) ?_ | refine awps_stp0 rfl rfl (by decide) (stp_len_nil rfl sl_S_api_Term rfl) ?_
  refine awps_stp0 rfl rfl (by decide) (stp_binI rfl rfl rfl rfl) ?_
  refine awps_stp0 rfl rfl (by decide) (stp_move (.inl rfl) rfl) ?_
  refine awps_split 11 rfl (fun g11 => ?_) (fun g11 => ?_)
  · try simp only [↓str_beq_t, ↓str_beq_f, decide_eq_true_eq, decide_eq_false_iff_not, Bool.not_eq_true', Bool.not_eq_false', Int.not_lt, Int.not_le, beq_iff_eq, beq_eq_false_iff_ne, bne_iff_ne, bne_eq_false_iff_eq, ne_eq] at g11
    obtain ⟨u, hu⟩ := get_of_lt (l := l) (k := k) (by omega)
    have hum := List.mem_of_getElem? hu
    have huw := hF u hum
    have hut := Tm.wfs_mem hw hum
    refine awps_g0 rfl rfl rfl (by decide) rfl (by decide) (stp_move (.inl rfl) rfl) ?_
    refine awps_g0 rfl rfl rfl (by decide) rfl (by decide) (stp_binI rfl rfl rfl rfl) ?_
    refine awps_stp0 rfl rfl (by decide) (stp_pick rfl rfl rfl) ?_
    refine awps_nil ?_
    refine thenQ_nil ?_
    refine awp_cond rfl (fun c0 => ?_) (fun c0 => ?_)
    · try simp only [↓str_beq_t, ↓str_beq_f, decide_eq_true_eq, decide_eq_false_iff_not, Bool.not_eq_true', Bool.not_eq_false', Int.not_lt, Int.not_le, beq_iff_eq, beq_eq_false_iff_ne, bne_iff_ne, bne_eq_false_iff_eq, ne_eq] at c0
      refine awp_skip ?_
      refine thenQ_nil ?_
      refine awp_seq ?_
      refine awp_block ?_
      refine awp_region ?_
      refine awps_stp0 rfl rfl (by decide) (stp_move (.inl rfl) rfl) ?_
      refine awps_stp0 rfl rfl (by decide) (stp_move (.inl rfl) rfl) ?_
      refine awps_stp0 rfl rfl (by decide) (stp_move (.inl rfl) rfl) ?_
      first | refine awps_stp0 rfl rfl (by decide) (stp_indexAddr rfl sl_S_api_Term rfl rfl (by omega) (tmDs_get hu)) ?_ | refine awps_stp0 rfl rfl (by decide) (stp_indexAddr_rowd rfl sl_S_api_Term rfl rfl rfl (by omega) (tmDs_get hu)) ?_ | refine awps_stp0 rfl rfl (by decide) (stp_indexAddr_row rfl sl_S_api_Term rfl rfl rfl (by omega) (tmDs_get hu) (by decide)) ?_
      first | refine awps_stp0 rfl rfl (by decide) (stp_load_all rfl tf_api_Term rfl rfl rfl rfl) ?_ | refine awps_stp0 rfl rfl (by decide) (stp_load rfl tf_api_Term rfl rfl rfl rfl rfl) ?_ | refine awps_stp0 rfl rfl (by decide) (stp_load_elpa rfl tf_api_Term rfl rfl) ?_ | refine awps_stp0 rfl rfl (by decide) (stp_load_elpn rfl tf_api_Term rfl rfl rfl) ?_
      refine awps_call (avs := [_, _]) true rfl rfl rfl (by decide) en_almagestlaw0_TermWeight rfl rfl (TermWeight30_ok u hut) rfl rfl ?_
      refine awps_stp0 rfl rfl (by decide) (stp_add rfl rfl rfl (by omega)) ?_
      refine awps_stp0 rfl rfl (by decide) (stp_move (.inr rfl) rfl) ?_
      refine awps_nil ?_
      refine inQ_nil ?_
      refine thenQ_nil ?_
      refine awp_region ?_
      refine awps_stp0 rfl rfl (by decide) (stp_move (.inl rfl) rfl) ?_
      refine awps_stp0 rfl rfl (by decide) (stp_add rfl rfl rfl (by omega)) ?_
      refine awps_stp0 rfl rfl (by decide) (stp_move (.inr rfl) rfl) ?_
      refine awps_nil ?_
      have hb := wgtL_snoc wT l.length (l.take k) u (fun j hj => by
        by_cases hjk : j < k
        · have := hp.2 j hjk; rwa [List.take_take, Nat.min_eq_left (by omega)]
        · rw [List.take_of_length_le (by simp; omega)]; omega)
      rw [← take_snoc hu] at hb
      refine thenQ_nil ?_
      refine ⟨?_, ?_, ?_⟩
      · skip
        omega
      · skip
        refine ⟨by omega, fun j hj => ?_⟩
        by_cases hjk : j < k
        · exact hp.2 j hjk
        · rw [show j = k by omega]; omega
      exact sub_re (SubT.cons (lk_eq rfl (by first | rfl | simp)) (SubT.cons (lk_eq rfl (by exact int_imm (by rw [hb]; try omega))) (SubT.cons (lk_eq rfl (by first | rfl | simp)) (SubT.nil)))) (SubO.nil) rfl rfl (noL' (noL hL) _)
    try simp only [↓str_beq_t, ↓str_beq_f, decide_eq_true_eq, decide_eq_false_iff_not, Bool.not_eq_true', Bool.not_eq_false', Int.not_lt, Int.not_le, beq_iff_eq, beq_eq_false_iff_ne, bne_iff_ne, bne_eq_false_iff_eq, ne_eq] at c0
    have hfin : wgtL wT l.length (l.take k) = wgtL wT l.length l := ((wgtL_take wT _ _ k hp.1 hp.2).trans (wgtL_stop _ _ _ (by omega))).symm
    refine awp_exit ?_
    refine thenQ_exit (thenQ_exit (inQ_hit ?_))
    refine thenQ_nil ?_
    refine awp_seq ?_
    refine awp_region ?_
    refine awps_stp0 rfl rfl (by decide) (stp_move (.inl rfl) rfl) ?_
    refine awps_stp0 rfl rfl (by decide) (stp_move (.inr rfl) rfl) ?_
    refine awps_nil ?_
    refine thenQ_nil ?_
    refine awp_ret ?_
    -- leaf g11T0F
    refine ret0 (noL hL) (.inl rfl) (resAs_tmp rfl (resAs_nil)) ?_ ?_
    · rfl
    exact ⟨int_w hfin, rfl⟩
  try simp only [↓str_beq_t, ↓str_beq_f, decide_eq_true_eq, decide_eq_false_iff_not, Bool.not_eq_true', Bool.not_eq_false', Int.not_lt, Int.not_le, beq_iff_eq, beq_eq_false_iff_ne, bne_iff_ne, bne_eq_false_iff_eq, ne_eq] at g11
  have hfin : wgtL wT l.length (l.take k) = wgtL wT l.length l := by rw [List.take_of_length_le (by omega)]
  refine awps_gs rfl rfl rfl rfl (by decide) rfl (by decide) ?_
  refine awps_gs rfl rfl rfl rfl (by decide) rfl (by decide) ?_
  refine awps_stp0 rfl rfl (by decide) (stp_pick rfl rfl rfl) ?_
  refine awps_nil ?_
  refine thenQ_nil ?_
  refine awp_condF rfl ?_
  refine awp_exit ?_
  refine thenQ_exit (thenQ_exit (inQ_hit ?_))
  refine thenQ_nil ?_
  refine awp_seq ?_
  refine awp_region ?_
  refine awps_stp0 rfl rfl (by decide) (stp_move (.inl rfl) rfl) ?_
  refine awps_stp0 rfl rfl (by decide) (stp_move (.inr rfl) rfl) ?_
  refine awps_nil ?_
  refine thenQ_nil ?_
  refine awp_ret ?_
  -- leaf g11F
  refine ret0 (noL hL) (.inl rfl) (resAs_tmp rfl (resAs_nil)) ?_ ?_
  · rfl
  exact ⟨int_w hfin, rfl⟩

theorem wTs_range (l : List Tm) (hl : lenOk l) (hw : Tm.wfs l) : 0 ≤ wTs l ∧ wTs l ≤ 4600000000000000 := by
  have hF : ∀ u, u ∈ l → 0 ≤ wT u ∧ wT u ≤ 4362862138900000 := fun u hu => wT_range u (Tm.wfs_mem hw hu)
  have h1 := wgtL_le wT 4362862138900000 (by omega) l.length l (fun u hu => (hF u hu).2) (by simp only [lenOk] at hl; omega)
  have h2 := wgtL_ge' wT l.length l (fun u hu => (hF u hu).1)
  simp only [wTs]; omega
def wG (g : Gd) : Int := wT g.l + wT g.r
def wGs (l : List Gd) : Int := wgtL wG l.length l
theorem wG_range (g : Gd) (h : g.wf) : 0 ≤ wG g ∧ wG g ≤ 8725724277800000 := by
  have h1 := wT_range g.l h.2.1
  have h2 := wT_range g.r h.2.2
  simp only [wG]; omega
theorem GuardsWeight_ok (l : List Gd) (hl : lenOk l) (hw : ∀ g ∈ l, g.wf) : PF 45 [.dat false 9 (gdDs l)] (iv (wGs l)) := by
  have hlen := gdDs_length l
  have hF : ∀ u, u ∈ l → 0 ≤ wG u ∧ wG u ≤ 8725724277800000 := fun u hu => wG_range u (hw u hu)
  simp only [lenOk] at hl
  refine AC_intro Try.func45 rfl Try.ntmps45 (Nat.le_of_ble_eq_true rfl) fun c hL => ?_
  refine awp_seq ?_
  refine awp_region ?_
  refine awps_stp0 rfl rfl (by decide) (stp_move (.inr rfl) rfl) ?_
  refine awps_nil ?_
  refine thenQ_nil ?_
  refine awp_seq ?_
  refine awp_region ?_
  refine awps_stp0 rfl rfl (by decide) (stp_move (.inl rfl) rfl) ?_
  first | refine awps_stp0 rfl rfl (by decide) (stp_len_dat rfl sl_S_api_Guard rfl) ?_ | refine awps_stp0 rfl rfl (by decide) (stp_len_rowd rfl sl_S_api_Guard rfl rfl) ?_ | refine awps_stp0 rfl rfl (by decide) (stp_len_nil rfl sl_S_api_Guard rfl) ?_
  refine awps_stp0 rfl rfl (by decide) (stp_move (.inr rfl) rfl) ?_
  refine awps_nil ?_
  refine thenQ_nil ?_
  refine awp_seq ?_
  refine awp_seq ?_
  refine awp_region ?_
  refine awps_stp0 rfl rfl (by decide) (stp_move (.inr rfl) rfl) ?_
  refine awps_nil ?_
  refine thenQ_nil ?_
  refine awp_block ?_
  refine awp_while (l.length) (fun k => k ≤ l.length ∧ ∀ j, j < k → wgtL wG l.length (l.take j) < 1048576) (fun k => ⟨[(0, .dat false 9 (gdDs l)), (3, iv (wgtL wG l.length (l.take k))), (4, iv (k : Int))], []⟩) (⟨by omega, fun j hj => absurd hj (by omega)⟩) ?_ (fun k hk hp => ?_)
  · exact sub_re (SubT.cons (lk_eq rfl (by first | rfl | simp)) (SubT.cons (lk_eq rfl (by exact int_imm (by simp only [List.take_zero, wgtL]; omega))) (SubT.cons (lk_eq rfl (by first | rfl | simp)) (SubT.nil)))) (SubO.nil) rfl rfl (noL' (noL hL) _)
  have hwk := wgtL_le wG 8725724277800000 (by omega) l.length (l.take k) (fun u hu => (hF u (List.mem_of_mem_take hu)).2) (by omega)
  have hw0 := wgtL_ge' wG l.length (l.take k) (fun u hu => (hF u (List.mem_of_mem_take hu)).1)
  refine awp_seq ?_
  refine awp_seq ?_
  refine awp_region ?_
  refine awps_stp0 rfl rfl (by decide) (stp_move (.inl rfl) rfl) ?_
  refine awps_stp0 rfl rfl (by decide) (stp_move (.inl rfl) rfl) ?_
  first | refine awps_stp0 rfl rfl (by decide) (stp_len_dat rfl sl_S_api_Guard rfl) ?_ | refine awps_stp0 rfl rfl (by decide) (stp_len_rowd rfl sl_S_api_Guard rfl rfl) ?_ | refine awps_stp0 rfl rfl (by decide) (stp_len_nil rfl sl_S_api_Guard rfl) ?_
  refine awps_stp0 rfl rfl (by decide) (stp_binI rfl rfl rfl rfl) ?_
  refine awps_stp0 rfl rfl (by decide) (stp_move (.inl rfl) rfl) ?_
  refine awps_split 11 rfl (fun g11 => ?_) (fun g11 => ?_)
  · try simp only [↓str_beq_t, ↓str_beq_f, decide_eq_true_eq, decide_eq_false_iff_not, Bool.not_eq_true', Bool.not_eq_false', Int.not_lt, Int.not_le, beq_iff_eq, beq_eq_false_iff_ne, bne_iff_ne, bne_eq_false_iff_eq, ne_eq] at g11
    obtain ⟨u, hu⟩ := get_of_lt (l := l) (k := k) (by omega)
    have hum := List.mem_of_getElem? hu
    have huw := hF u hum
    have hul := (hw u hum).2.1
    have hur := (hw u hum).2.2
    have hwg : wG u = wT u.l + wT u.r := rfl
    have hul2 := wT_range u.l hul
    have hur2 := wT_range u.r hur
    refine awps_g0 rfl rfl rfl (by decide) rfl (by decide) (stp_move (.inl rfl) rfl) ?_
    refine awps_g0 rfl rfl rfl (by decide) rfl (by decide) (stp_binI rfl rfl rfl rfl) ?_
    refine awps_stp0 rfl rfl (by decide) (stp_pick rfl rfl rfl) ?_
    refine awps_nil ?_
    refine thenQ_nil ?_
    refine awp_cond rfl (fun c0 => ?_) (fun c0 => ?_)
    · try simp only [↓str_beq_t, ↓str_beq_f, decide_eq_true_eq, decide_eq_false_iff_not, Bool.not_eq_true', Bool.not_eq_false', Int.not_lt, Int.not_le, beq_iff_eq, beq_eq_false_iff_ne, bne_iff_ne, bne_eq_false_iff_eq, ne_eq] at c0
      refine awp_skip ?_
      refine thenQ_nil ?_
      refine awp_seq ?_
      refine awp_block ?_
      refine awp_drawG 14 mixed rfl rfl rfl rfl ?_
      refine MGo_c0 rfl (by decide) (.run rfl (stp_move (.inl rfl) rfl)) ?_
      refine MGo_c0 rfl (by decide) (.run rfl (stp_move (.inl rfl) rfl)) ?_
      refine MGo_c0 rfl (by decide) (.run rfl (stp_move (.inl rfl) rfl)) ?_
      first | refine MGo_c0 rfl (by decide) (.run rfl (stp_indexAddr rfl sl_S_api_Guard rfl rfl (by omega) (gdDs_get hu))) ?_ | refine MGo_c0 rfl (by decide) (.run rfl (stp_indexAddr_rowd rfl sl_S_api_Guard rfl rfl rfl (by omega) (gdDs_get hu))) ?_ | refine MGo_c0 rfl (by decide) (.run rfl (stp_indexAddr_row rfl sl_S_api_Guard rfl rfl rfl (by omega) (gdDs_get hu) (by decide))) ?_
      first | refine MGo_c0 rfl (by decide) (.run rfl (stp_fieldAddr rfl fo_api_Guard_1 rfl)) ?_ | refine MGo_c0 rfl (by decide) (.run rfl (stp_fieldAddr_elp rfl fo_api_Guard_1 rfl)) ?_
      first | refine MGo_c0 rfl (by decide) (.run rfl (stp_load_all rfl tf_api_Term rfl rfl rfl rfl)) ?_ | refine MGo_c0 rfl (by decide) (.run rfl (stp_load rfl tf_api_Term rfl rfl rfl rfl rfl)) ?_ | refine MGo_c0 rfl (by decide) (.run rfl (stp_load_elpa rfl tf_api_Term rfl rfl)) ?_ | refine MGo_c0 rfl (by decide) (.run rfl (stp_load_elpn rfl tf_api_Term rfl rfl rfl)) ?_
      refine MGo_c0 rfl (by decide) (.run rfl (stp_call (avs := [_, _]) true rfl en_almagestlaw0_TermWeight rfl rfl (TermWeight30_ok u.l hul) (fun _ => rfl) rfl)) ?_
      refine MGo_c0 rfl (by decide) (.run rfl (stp_add rfl rfl rfl (by omega))) ?_
      refine MGo_c0 rfl (by decide) (.run rfl (stp_move (.inl rfl) rfl)) ?_
      refine MGo_c0 rfl (by decide) (.run rfl (stp_move (.inl rfl) rfl)) ?_
      first | refine MGo_c0 rfl (by decide) (.run rfl (stp_indexAddr rfl sl_S_api_Guard rfl rfl (by omega) (gdDs_get hu))) ?_ | refine MGo_c0 rfl (by decide) (.run rfl (stp_indexAddr_rowd rfl sl_S_api_Guard rfl rfl rfl (by omega) (gdDs_get hu))) ?_ | refine MGo_c0 rfl (by decide) (.run rfl (stp_indexAddr_row rfl sl_S_api_Guard rfl rfl rfl (by omega) (gdDs_get hu) (by decide))) ?_
      first | refine MGo_c0 rfl (by decide) (.run rfl (stp_fieldAddr rfl fo_api_Guard_2 rfl)) ?_ | refine MGo_c0 rfl (by decide) (.run rfl (stp_fieldAddr_elp rfl fo_api_Guard_2 rfl)) ?_
      first | refine MGo_c0 rfl (by decide) (.run rfl (stp_load_all rfl tf_api_Term rfl rfl rfl rfl)) ?_ | refine MGo_c0 rfl (by decide) (.run rfl (stp_load rfl tf_api_Term rfl rfl rfl rfl rfl)) ?_ | refine MGo_c0 rfl (by decide) (.run rfl (stp_load_elpa rfl tf_api_Term rfl rfl)) ?_ | refine MGo_c0 rfl (by decide) (.run rfl (stp_load_elpn rfl tf_api_Term rfl rfl rfl)) ?_
      refine MGo_c0 rfl (by decide) (.run rfl (stp_call (avs := [_, _]) true rfl en_almagestlaw0_TermWeight rfl rfl (TermWeight30_ok u.r hur) (fun _ => rfl) rfl)) ?_
      refine MGo_nil ⟨rfl, rfl, ?_⟩
      refine awps_stp0 rfl rfl (by decide) (stp_add rfl rfl rfl (by omega)) ?_
      refine awps_stp0 rfl rfl (by decide) (stp_move (.inr rfl) rfl) ?_
      refine awps_nil ?_
      refine inQ_nil ?_
      refine thenQ_nil ?_
      refine awp_region ?_
      refine awps_stp0 rfl rfl (by decide) (stp_move (.inl rfl) rfl) ?_
      refine awps_stp0 rfl rfl (by decide) (stp_add rfl rfl rfl (by omega)) ?_
      refine awps_stp0 rfl rfl (by decide) (stp_move (.inr rfl) rfl) ?_
      refine awps_nil ?_
      have hb := wgtL_snoc wG l.length (l.take k) u (fun j hj => by
        by_cases hjk : j < k
        · have := hp.2 j hjk; rwa [List.take_take, Nat.min_eq_left (by omega)]
        · rw [List.take_of_length_le (by simp; omega)]; omega)
      rw [← take_snoc hu] at hb
      refine thenQ_nil ?_
      refine ⟨?_, ?_, ?_⟩
      · skip
        omega
      · skip
        refine ⟨by omega, fun j hj => ?_⟩
        by_cases hjk : j < k
        · exact hp.2 j hjk
        · rw [show j = k by omega]; omega
      exact sub_re (SubT.cons (lk_eq rfl (by first | rfl | simp)) (SubT.cons (lk_eq rfl (by exact int_imm (by rw [hb]; try omega))) (SubT.cons (lk_eq rfl (by first | rfl | simp)) (SubT.nil)))) (SubO.nil) rfl rfl (noL' (noL hL) _)
    try simp only [↓str_beq_t, ↓str_beq_f, decide_eq_true_eq, decide_eq_false_iff_not, Bool.not_eq_true', Bool.not_eq_false', Int.not_lt, Int.not_le, beq_iff_eq, beq_eq_false_iff_ne, bne_iff_ne, bne_eq_false_iff_eq, ne_eq] at c0
    have hfin : wgtL wG l.length (l.take k) = wgtL wG l.length l := ((wgtL_take wG _ _ k hp.1 hp.2).trans (wgtL_stop _ _ _ (by omega))).symm
    refine awp_exit ?_
    refine thenQ_exit (thenQ_exit (inQ_hit ?_))
    refine thenQ_nil ?_
    refine awp_seq ?_
    refine awp_region ?_
    refine awps_stp0 rfl rfl (by decide) (stp_move (.inl rfl) rfl) ?_
    refine awps_stp0 rfl rfl (by decide) (stp_move (.inr rfl) rfl) ?_
    refine awps_nil ?_
    refine thenQ_nil ?_
    refine awp_ret ?_
    -- leaf g11T0F
    refine ret0 (noL hL) (.inl rfl) (resAs_tmp rfl (resAs_nil)) ?_ ?_
    · rfl
    exact ⟨int_w hfin, rfl⟩
  try simp only [↓str_beq_t, ↓str_beq_f, decide_eq_true_eq, decide_eq_false_iff_not, Bool.not_eq_true', Bool.not_eq_false', Int.not_lt, Int.not_le, beq_iff_eq, beq_eq_false_iff_ne, bne_iff_ne, bne_eq_false_iff_eq, ne_eq] at g11
  have hfin : wgtL wG l.length (l.take k) = wgtL wG l.length l := by rw [List.take_of_length_le (by omega)]
  refine awps_gs rfl rfl rfl rfl (by decide) rfl (by decide) ?_
  refine awps_gs rfl rfl rfl rfl (by decide) rfl (by decide) ?_
  refine awps_stp0 rfl rfl (by decide) (stp_pick rfl rfl rfl) ?_
  refine awps_nil ?_
  refine thenQ_nil ?_
  refine awp_condF rfl ?_
  refine awp_exit ?_
  refine thenQ_exit (thenQ_exit (inQ_hit ?_))
  refine thenQ_nil ?_
  refine awp_seq ?_
  refine awp_region ?_
  refine awps_stp0 rfl rfl (by decide) (stp_move (.inl rfl) rfl) ?_
  refine awps_stp0 rfl rfl (by decide) (stp_move (.inr rfl) rfl) ?_
  refine awps_nil ?_
  refine thenQ_nil ?_
  refine awp_ret ?_
  -- leaf g11F
  refine ret0 (noL hL) (.inl rfl) (resAs_tmp rfl (resAs_nil)) ?_ ?_
  · rfl
  exact ⟨int_w hfin, rfl⟩

theorem wGs_range (l : List Gd) (hl : lenOk l) (hw : ∀ g ∈ l, g.wf) : 0 ≤ wGs l ∧ wGs l ≤ 9000000000000000 := by
  have hF : ∀ u, u ∈ l → 0 ≤ wG u ∧ wG u ≤ 8725724277800000 := fun u hu => wG_range u (hw u hu)
  have h1 := wgtL_le wG 8725724277800000 (by omega) l.length l (fun u hu => (hF u hu).2) (by simp only [lenOk] at hl; omega)
  have h2 := wgtL_ge' wG l.length l (fun u hu => (hF u hu).1)
  simp only [wGs]; omega
def wB (b : Bd) : Int := b.name.size + wT b.t
def wBs (l : List Bd) : Int := wgtL wB l.length l
theorem wB_range (b : Bd) (h : b.wf) : 0 ≤ wB b ∧ wB b ≤ 4600000000000000 := by
  have h1 := wT_range b.t h.2
  have h2 := h.1
  simp only [wB]; omega
theorem wBs_range (l : List Bd) (hl : lenOk l) (hw : ∀ g ∈ l, g.wf) : 0 ≤ wBs l ∧ wBs l ≤ 4800000000000000 := by
  have hF : ∀ u, u ∈ l → 0 ≤ wB u ∧ wB u ≤ 4600000000000000 := fun u hu => wB_range u (hw u hu)
  have h1 := wgtL_le wB 4600000000000000 (by omega) l.length l (fun u hu => (hF u hu).2) (by simp only [lenOk] at hl; omega)
  have h2 := wgtL_ge' wB l.length l (fun u hu => (hF u hu).1)
  simp only [wBs]; omega
theorem BindsWeight_ok (l : List Bd) (hl : lenOk l) (hw : ∀ g ∈ l, g.wf) : PF 46 [.dat false 5 (bdDs l)] (iv (wBs l)) := by
  have hlen := bdDs_length l
  have hF : ∀ u, u ∈ l → 0 ≤ wB u ∧ wB u ≤ 4600000000000000 := fun u hu => wB_range u (hw u hu)
  simp only [lenOk] at hl
  refine AC_intro Try.func46 rfl Try.ntmps46 (Nat.le_of_ble_eq_true rfl) fun c hL => ?_
  refine awp_seq ?_
  refine awp_region ?_
  refine awps_stp0 rfl rfl (by decide) (stp_move (.inr rfl) rfl) ?_
  refine awps_nil ?_
  refine thenQ_nil ?_
  refine awp_seq ?_
  refine awp_region ?_
  refine awps_stp0 rfl rfl (by decide) (stp_move (.inl rfl) rfl) ?_
  first | refine awps_stp0 rfl rfl (by decide) (stp_len_dat rfl sl_S_api_Bind rfl) ?_ | refine awps_stp0 rfl rfl (by decide) (stp_len_rowd rfl sl_S_api_Bind rfl rfl) ?_ | refine awps_stp0 rfl rfl (by decide) (stp_len_nil rfl sl_S_api_Bind rfl) ?_
  refine awps_stp0 rfl rfl (by decide) (stp_move (.inr rfl) rfl) ?_
  refine awps_nil ?_
  refine thenQ_nil ?_
  refine awp_seq ?_
  refine awp_seq ?_
  refine awp_region ?_
  refine awps_stp0 rfl rfl (by decide) (stp_move (.inr rfl) rfl) ?_
  refine awps_nil ?_
  refine thenQ_nil ?_
  refine awp_block ?_
  refine awp_while (l.length) (fun k => k ≤ l.length ∧ ∀ j, j < k → wgtL wB l.length (l.take j) < 1048576) (fun k => ⟨[(0, .dat false 5 (bdDs l)), (3, iv (wgtL wB l.length (l.take k))), (4, iv (k : Int))], []⟩) (⟨by omega, fun j hj => absurd hj (by omega)⟩) ?_ (fun k hk hp => ?_)
  · exact sub_re (SubT.cons (lk_eq rfl (by first | rfl | simp)) (SubT.cons (lk_eq rfl (by exact int_imm (by simp only [List.take_zero, wgtL]; omega))) (SubT.cons (lk_eq rfl (by first | rfl | simp)) (SubT.nil)))) (SubO.nil) rfl rfl (noL' (noL hL) _)
  have hwk := wgtL_le wB 4600000000000000 (by omega) l.length (l.take k) (fun u hu => (hF u (List.mem_of_mem_take hu)).2) (by omega)
  have hw0 := wgtL_ge' wB l.length (l.take k) (fun u hu => (hF u (List.mem_of_mem_take hu)).1)
  refine awp_seq ?_
  refine awp_seq ?_
  refine awp_region ?_
  refine awps_stp0 rfl rfl (by decide) (stp_move (.inl rfl) rfl) ?_
  refine awps_stp0 rfl rfl (by decide) (stp_move (.inl rfl) rfl) ?_
  first | refine awps_stp0 rfl rfl (by decide) (stp_len_dat rfl sl_S_api_Bind rfl) ?_ | refine awps_stp0 rfl rfl (by decide) (stp_len_rowd rfl sl_S_api_Bind rfl rfl) ?_ | refine awps_stp0 rfl rfl (by decide) (stp_len_nil rfl sl_S_api_Bind rfl) ?_
  refine awps_stp0 rfl rfl (by decide) (stp_binI rfl rfl rfl rfl) ?_
  refine awps_stp0 rfl rfl (by decide) (stp_move (.inl rfl) rfl) ?_
  refine awps_split 11 rfl (fun g11 => ?_) (fun g11 => ?_)
  · try simp only [↓str_beq_t, ↓str_beq_f, decide_eq_true_eq, decide_eq_false_iff_not, Bool.not_eq_true', Bool.not_eq_false', Int.not_lt, Int.not_le, beq_iff_eq, beq_eq_false_iff_ne, bne_iff_ne, bne_eq_false_iff_eq, ne_eq] at g11
    obtain ⟨u, hu⟩ := get_of_lt (l := l) (k := k) (by omega)
    have hum := List.mem_of_getElem? hu
    have huw := hF u hum
    have hul := (hw u hum).1
    have hur := (hw u hum).2
    have hwg : wB u = u.name.size + wT u.t := rfl
    have hur2 := wT_range u.t hur
    refine awps_g0 rfl rfl rfl (by decide) rfl (by decide) (stp_move (.inl rfl) rfl) ?_
    refine awps_g0 rfl rfl rfl (by decide) rfl (by decide) (stp_binI rfl rfl rfl rfl) ?_
    refine awps_stp0 rfl rfl (by decide) (stp_pick rfl rfl rfl) ?_
    refine awps_nil ?_
    refine thenQ_nil ?_
    refine awp_cond rfl (fun c0 => ?_) (fun c0 => ?_)
    · try simp only [↓str_beq_t, ↓str_beq_f, decide_eq_true_eq, decide_eq_false_iff_not, Bool.not_eq_true', Bool.not_eq_false', Int.not_lt, Int.not_le, beq_iff_eq, beq_eq_false_iff_ne, bne_iff_ne, bne_eq_false_iff_eq, ne_eq] at c0
      refine awp_skip ?_
      refine thenQ_nil ?_
      refine awp_seq ?_
      refine awp_block ?_
      refine awp_drawG 14 mixed rfl rfl rfl rfl ?_
      refine MGo_c0 rfl (by decide) (.run rfl (stp_move (.inl rfl) rfl)) ?_
      refine MGo_c0 rfl (by decide) (.run rfl (stp_move (.inl rfl) rfl)) ?_
      refine MGo_c0 rfl (by decide) (.run rfl (stp_move (.inl rfl) rfl)) ?_
      first | refine MGo_c0 rfl (by decide) (.run rfl (stp_indexAddr rfl sl_S_api_Bind rfl rfl (by omega) (bdDs_get hu))) ?_ | refine MGo_c0 rfl (by decide) (.run rfl (stp_indexAddr_rowd rfl sl_S_api_Bind rfl rfl rfl (by omega) (bdDs_get hu))) ?_ | refine MGo_c0 rfl (by decide) (.run rfl (stp_indexAddr_row rfl sl_S_api_Bind rfl rfl rfl (by omega) (bdDs_get hu) (by decide))) ?_
      first | refine MGo_c0 rfl (by decide) (.run rfl (stp_fieldAddr rfl fo_api_Bind_0 rfl)) ?_ | refine MGo_c0 rfl (by decide) (.run rfl (stp_fieldAddr_elp rfl fo_api_Bind_0 rfl)) ?_
      first | refine MGo_c0 rfl (by decide) (.run rfl (stp_load rfl tf_string rfl rfl rfl rfl rfl)) ?_ | refine MGo_c0 rfl (by decide) (.run rfl (stp_load_elp1 rfl tf_string rfl)) ?_ | refine MGo_c0 rfl (by decide) (.run rfl (stp_load_elpn rfl tf_string rfl rfl rfl)) ?_
      refine MGo_c0 rfl (by decide) (.run rfl (stp_len_str rfl ul_string rfl)) ?_
      refine MGo_c0 rfl (by decide) (.run rfl (stp_add rfl rfl rfl (by omega))) ?_
      refine MGo_c0 rfl (by decide) (.run rfl (stp_move (.inl rfl) rfl)) ?_
      refine MGo_c0 rfl (by decide) (.run rfl (stp_move (.inl rfl) rfl)) ?_
      first | refine MGo_c0 rfl (by decide) (.run rfl (stp_indexAddr rfl sl_S_api_Bind rfl rfl (by omega) (bdDs_get hu))) ?_ | refine MGo_c0 rfl (by decide) (.run rfl (stp_indexAddr_rowd rfl sl_S_api_Bind rfl rfl rfl (by omega) (bdDs_get hu))) ?_ | refine MGo_c0 rfl (by decide) (.run rfl (stp_indexAddr_row rfl sl_S_api_Bind rfl rfl rfl (by omega) (bdDs_get hu) (by decide))) ?_
      first | refine MGo_c0 rfl (by decide) (.run rfl (stp_fieldAddr rfl fo_api_Bind_1 rfl)) ?_ | refine MGo_c0 rfl (by decide) (.run rfl (stp_fieldAddr_elp rfl fo_api_Bind_1 rfl)) ?_
      first | refine MGo_c0 rfl (by decide) (.run rfl (stp_load_all rfl tf_api_Term rfl rfl rfl rfl)) ?_ | refine MGo_c0 rfl (by decide) (.run rfl (stp_load rfl tf_api_Term rfl rfl rfl rfl rfl)) ?_ | refine MGo_c0 rfl (by decide) (.run rfl (stp_load_elpa rfl tf_api_Term rfl rfl)) ?_ | refine MGo_c0 rfl (by decide) (.run rfl (stp_load_elpn rfl tf_api_Term rfl rfl rfl)) ?_
      refine MGo_c0 rfl (by decide) (.run rfl (stp_call (avs := [_, _]) true rfl en_almagestlaw0_TermWeight rfl rfl (TermWeight30_ok u.t hur) (fun _ => rfl) rfl)) ?_
      refine MGo_nil ⟨rfl, rfl, ?_⟩
      refine awps_stp0 rfl rfl (by decide) (stp_add rfl rfl rfl (by omega)) ?_
      refine awps_stp0 rfl rfl (by decide) (stp_move (.inr rfl) rfl) ?_
      refine awps_nil ?_
      refine inQ_nil ?_
      refine thenQ_nil ?_
      refine awp_region ?_
      refine awps_stp0 rfl rfl (by decide) (stp_move (.inl rfl) rfl) ?_
      refine awps_stp0 rfl rfl (by decide) (stp_add rfl rfl rfl (by omega)) ?_
      refine awps_stp0 rfl rfl (by decide) (stp_move (.inr rfl) rfl) ?_
      refine awps_nil ?_
      have hb := wgtL_snoc wB l.length (l.take k) u (fun j hj => by
        by_cases hjk : j < k
        · have := hp.2 j hjk; rwa [List.take_take, Nat.min_eq_left (by omega)]
        · rw [List.take_of_length_le (by simp; omega)]; omega)
      rw [← take_snoc hu] at hb
      refine thenQ_nil ?_
      refine ⟨?_, ?_, ?_⟩
      · skip
        omega
      · skip
        refine ⟨by omega, fun j hj => ?_⟩
        by_cases hjk : j < k
        · exact hp.2 j hjk
        · rw [show j = k by omega]; omega
      exact sub_re (SubT.cons (lk_eq rfl (by first | rfl | simp)) (SubT.cons (lk_eq rfl (by exact int_imm (by rw [hb]; try omega))) (SubT.cons (lk_eq rfl (by first | rfl | simp)) (SubT.nil)))) (SubO.nil) rfl rfl (noL' (noL hL) _)
    try simp only [↓str_beq_t, ↓str_beq_f, decide_eq_true_eq, decide_eq_false_iff_not, Bool.not_eq_true', Bool.not_eq_false', Int.not_lt, Int.not_le, beq_iff_eq, beq_eq_false_iff_ne, bne_iff_ne, bne_eq_false_iff_eq, ne_eq] at c0
    have hfin : wgtL wB l.length (l.take k) = wgtL wB l.length l := ((wgtL_take wB _ _ k hp.1 hp.2).trans (wgtL_stop _ _ _ (by omega))).symm
    refine awp_exit ?_
    refine thenQ_exit (thenQ_exit (inQ_hit ?_))
    refine thenQ_nil ?_
    refine awp_seq ?_
    refine awp_region ?_
    refine awps_stp0 rfl rfl (by decide) (stp_move (.inl rfl) rfl) ?_
    refine awps_stp0 rfl rfl (by decide) (stp_move (.inr rfl) rfl) ?_
    refine awps_nil ?_
    refine thenQ_nil ?_
    refine awp_ret ?_
    -- leaf g11T0F
    refine ret0 (noL hL) (.inl rfl) (resAs_tmp rfl (resAs_nil)) ?_ ?_
    · rfl
    exact ⟨int_w hfin, rfl⟩
  try simp only [↓str_beq_t, ↓str_beq_f, decide_eq_true_eq, decide_eq_false_iff_not, Bool.not_eq_true', Bool.not_eq_false', Int.not_lt, Int.not_le, beq_iff_eq, beq_eq_false_iff_ne, bne_iff_ne, bne_eq_false_iff_eq, ne_eq] at g11
  have hfin : wgtL wB l.length (l.take k) = wgtL wB l.length l := by rw [List.take_of_length_le (by omega)]
  refine awps_gs rfl rfl rfl rfl (by decide) rfl (by decide) ?_
  refine awps_gs rfl rfl rfl rfl (by decide) rfl (by decide) ?_
  refine awps_stp0 rfl rfl (by decide) (stp_pick rfl rfl rfl) ?_
  refine awps_nil ?_
  refine thenQ_nil ?_
  refine awp_condF rfl ?_
  refine awp_exit ?_
  refine thenQ_exit (thenQ_exit (inQ_hit ?_))
  refine thenQ_nil ?_
  refine awp_seq ?_
  refine awp_region ?_
  refine awps_stp0 rfl rfl (by decide) (stp_move (.inl rfl) rfl) ?_
  refine awps_stp0 rfl rfl (by decide) (stp_move (.inr rfl) rfl) ?_
  refine awps_nil ?_
  refine thenQ_nil ?_
  refine awp_ret ?_
  -- leaf g11F
  refine ret0 (noL hL) (.inl rfl) (resAs_tmp rfl (resAs_nil)) ?_ ?_
  · rfl
  exact ⟨int_w hfin, rfl⟩

def wC (c : Cl) : Int := wT c.head + wTs c.body + wGs c.guards
def wCs (l : List Cl) : Int := wgtL wC l.length l
theorem wC_range (c : Cl) (h : c.wf) : 0 ≤ wC c ∧ wC c ≤ 20000000000000000 := by
  have h1 := wT_range c.head h.1
  have h2 := wTs_range c.body h.2.1.1 h.2.1.2
  have h3 := wGs_range c.guards h.2.2.1 h.2.2.2
  simp only [wC]; omega
theorem wCs_range (l : List Cl) (hl : lenOk l) (hw : ∀ g ∈ l, g.wf) : 0 ≤ wCs l ∧ wCs l ≤ 21000000000000000 := by
  have hF : ∀ u, u ∈ l → 0 ≤ wC u ∧ wC u ≤ 20000000000000000 := fun u hu => wC_range u (hw u hu)
  have h1 := wgtL_le wC 20000000000000000 (by omega) l.length l (fun u hu => (hF u hu).2) (by simp only [lenOk] at hl; omega)
  have h2 := wgtL_ge' wC l.length l (fun u hu => (hF u hu).1)
  simp only [wCs]; omega
theorem ClausesWeight_ok (l : List Cl) (hl : lenOk l) (hw : ∀ g ∈ l, g.wf) : PF 86 [.dat false 6 (clDs l)] (iv (wCs l)) := by
  have hlen := clDs_length l
  have hF : ∀ u, u ∈ l → 0 ≤ wC u ∧ wC u ≤ 20000000000000000 := fun u hu => wC_range u (hw u hu)
  simp only [lenOk] at hl
  refine AC_intro Try.func86 rfl Try.ntmps86 (Nat.le_of_ble_eq_true rfl) fun c hL => ?_
  refine awp_seq ?_
  refine awp_region ?_
  refine awps_stp0 rfl rfl (by decide) (stp_move (.inr rfl) rfl) ?_
  refine awps_nil ?_
  refine thenQ_nil ?_
  refine awp_seq ?_
  refine awp_region ?_
  refine awps_stp0 rfl rfl (by decide) (stp_move (.inl rfl) rfl) ?_
  first | refine awps_stp0 rfl rfl (by decide) (stp_len_dat rfl sl_S_api_Clause rfl) ?_ | refine awps_stp0 rfl rfl (by decide) (stp_len_rowd rfl sl_S_api_Clause rfl rfl) ?_ | refine awps_stp0 rfl rfl (by decide) (stp_len_nil rfl sl_S_api_Clause rfl) ?_
  refine awps_stp0 rfl rfl (by decide) (stp_move (.inr rfl) rfl) ?_
  refine awps_nil ?_
  refine thenQ_nil ?_
  refine awp_seq ?_
  refine awp_seq ?_
  refine awp_region ?_
  refine awps_stp0 rfl rfl (by decide) (stp_move (.inr rfl) rfl) ?_
  refine awps_nil ?_
  refine thenQ_nil ?_
  refine awp_block ?_
  refine awp_while (l.length) (fun k => k ≤ l.length ∧ ∀ j, j < k → wgtL wC l.length (l.take j) < 1048576) (fun k => ⟨[(0, .dat false 6 (clDs l)), (3, iv (wgtL wC l.length (l.take k))), (4, iv (k : Int))], []⟩) (⟨by omega, fun j hj => absurd hj (by omega)⟩) ?_ (fun k hk hp => ?_)
  · exact sub_re (SubT.cons (lk_eq rfl (by first | rfl | simp)) (SubT.cons (lk_eq rfl (by exact int_imm (by simp only [List.take_zero, wgtL]; omega))) (SubT.cons (lk_eq rfl (by first | rfl | simp)) (SubT.nil)))) (SubO.nil) rfl rfl (noL' (noL hL) _)
  have hwk := wgtL_le wC 20000000000000000 (by omega) l.length (l.take k) (fun u hu => (hF u (List.mem_of_mem_take hu)).2) (by omega)
  have hw0 := wgtL_ge' wC l.length (l.take k) (fun u hu => (hF u (List.mem_of_mem_take hu)).1)
  refine awp_seq ?_
  refine awp_seq ?_
  refine awp_region ?_
  refine awps_stp0 rfl rfl (by decide) (stp_move (.inl rfl) rfl) ?_
  refine awps_stp0 rfl rfl (by decide) (stp_move (.inl rfl) rfl) ?_
  first | refine awps_stp0 rfl rfl (by decide) (stp_len_dat rfl sl_S_api_Clause rfl) ?_ | refine awps_stp0 rfl rfl (by decide) (stp_len_rowd rfl sl_S_api_Clause rfl rfl) ?_ | refine awps_stp0 rfl rfl (by decide) (stp_len_nil rfl sl_S_api_Clause rfl) ?_
  refine awps_stp0 rfl rfl (by decide) (stp_binI rfl rfl rfl rfl) ?_
  refine awps_stp0 rfl rfl (by decide) (stp_move (.inl rfl) rfl) ?_
  refine awps_split 11 rfl (fun g11 => ?_) (fun g11 => ?_)
  · try simp only [↓str_beq_t, ↓str_beq_f, decide_eq_true_eq, decide_eq_false_iff_not, Bool.not_eq_true', Bool.not_eq_false', Int.not_lt, Int.not_le, beq_iff_eq, beq_eq_false_iff_ne, bne_iff_ne, bne_eq_false_iff_eq, ne_eq] at g11
    obtain ⟨u, hu⟩ := get_of_lt (l := l) (k := k) (by omega)
    have hum := List.mem_of_getElem? hu
    have huw := hF u hum
    have hu1 := (hw u hum).1
    have hu2 := (hw u hum).2.1
    have hu3 := (hw u hum).2.2
    have hwg : wC u = wT u.head + wTs u.body + wGs u.guards := rfl
    have hr1 := wT_range u.head hu1
    have hr2 := wTs_range u.body hu2.1 hu2.2
    have hr3 := wGs_range u.guards hu3.1 hu3.2
    refine awps_g0 rfl rfl rfl (by decide) rfl (by decide) (stp_move (.inl rfl) rfl) ?_
    refine awps_g0 rfl rfl rfl (by decide) rfl (by decide) (stp_binI rfl rfl rfl rfl) ?_
    refine awps_stp0 rfl rfl (by decide) (stp_pick rfl rfl rfl) ?_
    refine awps_nil ?_
    refine thenQ_nil ?_
    refine awp_cond rfl (fun c0 => ?_) (fun c0 => ?_)
    · try simp only [↓str_beq_t, ↓str_beq_f, decide_eq_true_eq, decide_eq_false_iff_not, Bool.not_eq_true', Bool.not_eq_false', Int.not_lt, Int.not_le, beq_iff_eq, beq_eq_false_iff_ne, bne_iff_ne, bne_eq_false_iff_eq, ne_eq] at c0
      refine awp_skip ?_
      refine thenQ_nil ?_
      refine awp_seq ?_
      refine awp_block ?_
      refine awp_drawG 21 mixed rfl rfl rfl rfl ?_
      refine MGo_c0 rfl (by decide) (.run rfl (stp_move (.inl rfl) rfl)) ?_
      refine MGo_c0 rfl (by decide) (.run rfl (stp_move (.inl rfl) rfl)) ?_
      refine MGo_c0 rfl (by decide) (.run rfl (stp_move (.inl rfl) rfl)) ?_
      first | refine MGo_c0 rfl (by decide) (.run rfl (stp_indexAddr rfl sl_S_api_Clause rfl rfl (by omega) (clDs_get hu))) ?_ | refine MGo_c0 rfl (by decide) (.run rfl (stp_indexAddr_rowd rfl sl_S_api_Clause rfl rfl rfl (by omega) (clDs_get hu))) ?_ | refine MGo_c0 rfl (by decide) (.run rfl (stp_indexAddr_row rfl sl_S_api_Clause rfl rfl rfl (by omega) (clDs_get hu) (by decide))) ?_
      first | refine MGo_c0 rfl (by decide) (.run rfl (stp_fieldAddr rfl fo_api_Clause_0 rfl)) ?_ | refine MGo_c0 rfl (by decide) (.run rfl (stp_fieldAddr_elp rfl fo_api_Clause_0 rfl)) ?_
      first | refine MGo_c0 rfl (by decide) (.run rfl (stp_load_all rfl tf_api_Term rfl rfl rfl rfl)) ?_ | refine MGo_c0 rfl (by decide) (.run rfl (stp_load rfl tf_api_Term rfl rfl rfl rfl rfl)) ?_ | refine MGo_c0 rfl (by decide) (.run rfl (stp_load_elpa rfl tf_api_Term rfl rfl)) ?_ | refine MGo_c0 rfl (by decide) (.run rfl (stp_load_elpn rfl tf_api_Term rfl rfl rfl)) ?_
      refine MGo_c0 rfl (by decide) (.run rfl (stp_call (avs := [_, _]) true rfl en_almagestlaw0_TermWeight rfl rfl (TermWeight30_ok u.head hu1) (fun _ => rfl) rfl)) ?_
      refine MGo_c0 rfl (by decide) (.run rfl (stp_add rfl rfl rfl (by omega))) ?_
      refine MGo_c0 rfl (by decide) (.run rfl (stp_move (.inl rfl) rfl)) ?_
      refine MGo_c0 rfl (by decide) (.run rfl (stp_move (.inl rfl) rfl)) ?_
      first | refine MGo_c0 rfl (by decide) (.run rfl (stp_indexAddr rfl sl_S_api_Clause rfl rfl (by omega) (clDs_get hu))) ?_ | refine MGo_c0 rfl (by decide) (.run rfl (stp_indexAddr_rowd rfl sl_S_api_Clause rfl rfl rfl (by omega) (clDs_get hu))) ?_ | refine MGo_c0 rfl (by decide) (.run rfl (stp_indexAddr_row rfl sl_S_api_Clause rfl rfl rfl (by omega) (clDs_get hu) (by decide))) ?_
      first | refine MGo_c0 rfl (by decide) (.run rfl (stp_fieldAddr rfl fo_api_Clause_1 rfl)) ?_ | refine MGo_c0 rfl (by decide) (.run rfl (stp_fieldAddr_elp rfl fo_api_Clause_1 rfl)) ?_
      first | refine MGo_c0 rfl (by decide) (.run rfl (stp_load rfl tf_S_api_Term rfl rfl rfl rfl rfl)) ?_ | refine MGo_c0 rfl (by decide) (.run rfl (stp_load_elp1 rfl tf_S_api_Term rfl)) ?_ | refine MGo_c0 rfl (by decide) (.run rfl (stp_load_elpn rfl tf_S_api_Term rfl rfl rfl)) ?_
      refine MGo_c0 rfl (by decide) (.run rfl (stp_call (avs := [_]) true rfl en_almagestlaw0_Terms rfl rfl (Terms_ok u.body hu2.1 hu2.2) (fun _ => rfl) rfl)) ?_
      refine MGo_c0 rfl (by decide) (.run rfl (stp_add rfl rfl rfl (by omega))) ?_
      refine MGo_c0 rfl (by decide) (.run rfl (stp_move (.inl rfl) rfl)) ?_
      refine MGo_c0 rfl (by decide) (.run rfl (stp_move (.inl rfl) rfl)) ?_
      first | refine MGo_c0 rfl (by decide) (.run rfl (stp_indexAddr rfl sl_S_api_Clause rfl rfl (by omega) (clDs_get hu))) ?_ | refine MGo_c0 rfl (by decide) (.run rfl (stp_indexAddr_rowd rfl sl_S_api_Clause rfl rfl rfl (by omega) (clDs_get hu))) ?_ | refine MGo_c0 rfl (by decide) (.run rfl (stp_indexAddr_row rfl sl_S_api_Clause rfl rfl rfl (by omega) (clDs_get hu) (by decide))) ?_
      first | refine MGo_c0 rfl (by decide) (.run rfl (stp_fieldAddr rfl fo_api_Clause_2 rfl)) ?_ | refine MGo_c0 rfl (by decide) (.run rfl (stp_fieldAddr_elp rfl fo_api_Clause_2 rfl)) ?_
      first | refine MGo_c0 rfl (by decide) (.run rfl (stp_load rfl tf_S_api_Guard rfl rfl rfl rfl rfl)) ?_ | refine MGo_c0 rfl (by decide) (.run rfl (stp_load_elp1 rfl tf_S_api_Guard rfl)) ?_ | refine MGo_c0 rfl (by decide) (.run rfl (stp_load_elpn rfl tf_S_api_Guard rfl rfl rfl)) ?_
      refine MGo_c0 rfl (by decide) (.run rfl (stp_call (avs := [_]) true rfl en_almagestlaw0_GuardsWeight rfl rfl (GuardsWeight_ok u.guards hu3.1 hu3.2) (fun _ => rfl) rfl)) ?_
      refine MGo_nil ⟨rfl, rfl, ?_⟩
      refine awps_stp0 rfl rfl (by decide) (stp_add rfl rfl rfl (by omega)) ?_
      refine awps_stp0 rfl rfl (by decide) (stp_move (.inr rfl) rfl) ?_
      refine awps_nil ?_
      refine inQ_nil ?_
      refine thenQ_nil ?_
      refine awp_region ?_
      refine awps_stp0 rfl rfl (by decide) (stp_move (.inl rfl) rfl) ?_
      refine awps_stp0 rfl rfl (by decide) (stp_add rfl rfl rfl (by omega)) ?_
      refine awps_stp0 rfl rfl (by decide) (stp_move (.inr rfl) rfl) ?_
      refine awps_nil ?_
      have hb := wgtL_snoc wC l.length (l.take k) u (fun j hj => by
        by_cases hjk : j < k
        · have := hp.2 j hjk; rwa [List.take_take, Nat.min_eq_left (by omega)]
        · rw [List.take_of_length_le (by simp; omega)]; omega)
      rw [← take_snoc hu] at hb
      refine thenQ_nil ?_
      refine ⟨?_, ?_, ?_⟩
      · skip
        omega
      · skip
        refine ⟨by omega, fun j hj => ?_⟩
        by_cases hjk : j < k
        · exact hp.2 j hjk
        · rw [show j = k by omega]; omega
      exact sub_re (SubT.cons (lk_eq rfl (by first | rfl | simp)) (SubT.cons (lk_eq rfl (by exact int_imm (by rw [hb]; try omega))) (SubT.cons (lk_eq rfl (by first | rfl | simp)) (SubT.nil)))) (SubO.nil) rfl rfl (noL' (noL hL) _)
    try simp only [↓str_beq_t, ↓str_beq_f, decide_eq_true_eq, decide_eq_false_iff_not, Bool.not_eq_true', Bool.not_eq_false', Int.not_lt, Int.not_le, beq_iff_eq, beq_eq_false_iff_ne, bne_iff_ne, bne_eq_false_iff_eq, ne_eq] at c0
    have hfin : wgtL wC l.length (l.take k) = wgtL wC l.length l := ((wgtL_take wC _ _ k hp.1 hp.2).trans (wgtL_stop _ _ _ (by omega))).symm
    refine awp_exit ?_
    refine thenQ_exit (thenQ_exit (inQ_hit ?_))
    refine thenQ_nil ?_
    refine awp_seq ?_
    refine awp_region ?_
    refine awps_stp0 rfl rfl (by decide) (stp_move (.inl rfl) rfl) ?_
    refine awps_stp0 rfl rfl (by decide) (stp_move (.inr rfl) rfl) ?_
    refine awps_nil ?_
    refine thenQ_nil ?_
    refine awp_ret ?_
    -- leaf g11T0F
    refine ret0 (noL hL) (.inl rfl) (resAs_tmp rfl (resAs_nil)) ?_ ?_
    · rfl
    exact ⟨int_w hfin, rfl⟩
  try simp only [↓str_beq_t, ↓str_beq_f, decide_eq_true_eq, decide_eq_false_iff_not, Bool.not_eq_true', Bool.not_eq_false', Int.not_lt, Int.not_le, beq_iff_eq, beq_eq_false_iff_ne, bne_iff_ne, bne_eq_false_iff_eq, ne_eq] at g11
  have hfin : wgtL wC l.length (l.take k) = wgtL wC l.length l := by rw [List.take_of_length_le (by omega)]
  refine awps_gs rfl rfl rfl rfl (by decide) rfl (by decide) ?_
  refine awps_gs rfl rfl rfl rfl (by decide) rfl (by decide) ?_
  refine awps_stp0 rfl rfl (by decide) (stp_pick rfl rfl rfl) ?_
  refine awps_nil ?_
  refine thenQ_nil ?_
  refine awp_condF rfl ?_
  refine awp_exit ?_
  refine thenQ_exit (thenQ_exit (inQ_hit ?_))
  refine thenQ_nil ?_
  refine awp_seq ?_
  refine awp_region ?_
  refine awps_stp0 rfl rfl (by decide) (stp_move (.inl rfl) rfl) ?_
  refine awps_stp0 rfl rfl (by decide) (stp_move (.inr rfl) rfl) ?_
  refine awps_nil ?_
  refine thenQ_nil ?_
  refine awp_ret ?_
  -- leaf g11F
  refine ret0 (noL hL) (.inl rfl) (resAs_tmp rfl (resAs_nil)) ?_ ?_
  · rfl
  exact ⟨int_w hfin, rfl⟩

def heavy11 (p : Ask11) : Bool := decide (600 < wCs p.C) || decide (600 < wTs p.K) || decide (1500 < wTs p.T)
theorem Heavy11_ok (p : Ask11) (hp : p.wf) : PF 47 [.agg (lift false (a11D p))] (bv (heavy11 p)) := by
  refine AC_intro Try.func47 rfl Try.ntmps47 (Nat.le_of_ble_eq_true rfl) fun c hL => ?_
  refine awp_seq ?_
  refine awp_region ?_
  refine awps_stp1 rfl rfl (by decide) (stp_box 1 rfl rfl rfl) rfl ?_
  refine awps_stp0 rfl rfl (by decide) (stp_move (.inr rfl) rfl) ?_
  refine awps_nil ?_
  refine thenQ_nil ?_
  refine awp_seq ?_
  refine awp_region ?_
  first | refine awps_stp0 rfl rfl (by decide) (stp_fieldAddr rfl fo_almagestlaw11_Ask_0 rfl) ?_ | refine awps_stp0 rfl rfl (by decide) (stp_fieldAddr_elp rfl fo_almagestlaw11_Ask_0 rfl) ?_
  first | refine awps_stp0 rfl rfl (by decide) (stp_load rfl tf_S_api_Clause rfl rfl rfl rfl rfl) ?_ | refine awps_stp0 rfl rfl (by decide) (stp_load_elp1 rfl tf_S_api_Clause rfl) ?_ | refine awps_stp0 rfl rfl (by decide) (stp_load_elpn rfl tf_S_api_Clause rfl rfl rfl) ?_
  refine awps_call (avs := [_]) true rfl rfl rfl (by decide) en_almagestlaw0_ClausesWeight rfl rfl (ClausesWeight_ok p.C hp.1.1 hp.1.2) rfl rfl ?_
  refine awps_stp0 rfl rfl (by decide) (stp_binI rfl rfl rfl rfl) ?_
  refine awps_stp0 rfl rfl (by decide) (stp_move (.inl rfl) rfl) ?_
  refine awps_split 7 rfl (fun g7 => ?_) (fun g7 => ?_)
  · try simp only [↓str_beq_t, ↓str_beq_f, decide_eq_true_eq, decide_eq_false_iff_not, Bool.not_eq_true', Bool.not_eq_false', Int.not_lt, Int.not_le, beq_iff_eq, beq_eq_false_iff_ne, bne_iff_ne, bne_eq_false_iff_eq, ne_eq] at g7
    refine awps_gs rfl rfl rfl rfl (by decide) rfl (by decide) ?_
    refine awps_gs rfl rfl rfl rfl (by decide) rfl (by decide) ?_
    refine awps_gs rfl rfl rfl rfl (by decide) rfl (by decide) ?_
    refine awps_gs rfl rfl rfl rfl (by decide) rfl (by decide) ?_
    refine awps_stp0 rfl rfl (by decide) (stp_pick rfl rfl rfl) ?_
    refine awps_stp0 rfl rfl (by decide) (stp_move (.inl rfl) rfl) ?_
    refine awps_gs rfl rfl rfl rfl (by decide) rfl (by decide) ?_
    refine awps_gs rfl rfl rfl rfl (by decide) rfl (by decide) ?_
    refine awps_gs rfl rfl rfl rfl (by decide) rfl (by decide) ?_
    refine awps_gs rfl rfl rfl rfl (by decide) rfl (by decide) ?_
    refine awps_stp0 rfl rfl (by decide) (stp_pick rfl rfl rfl) ?_
    refine awps_stp0 rfl rfl (by decide) (stp_move (.inr rfl) rfl) ?_
    refine awps_nil ?_
    refine thenQ_nil ?_
    refine awp_ret ?_
    -- leaf g7T
    refine ret0 (noL hL) (.inl rfl) (resAs_tmp rfl (resAs_nil)) ?_ ?_
    · rfl
    refine ⟨bool_w ?_, rfl⟩
    simp_all [heavy11]
    try (intro h; omega)
  try simp only [↓str_beq_t, ↓str_beq_f, decide_eq_true_eq, decide_eq_false_iff_not, Bool.not_eq_true', Bool.not_eq_false', Int.not_lt, Int.not_le, beq_iff_eq, beq_eq_false_iff_ne, bne_iff_ne, bne_eq_false_iff_eq, ne_eq] at g7
  first | refine awps_g0 rfl rfl rfl (by decide) rfl (by decide) (stp_fieldAddr rfl fo_almagestlaw11_Ask_1 rfl) ?_ | refine awps_g0 rfl rfl rfl (by decide) rfl (by decide) (stp_fieldAddr_elp rfl fo_almagestlaw11_Ask_1 rfl) ?_
  first | refine awps_g0 rfl rfl rfl (by decide) rfl (by decide) (stp_load rfl tf_S_api_Term rfl rfl rfl rfl rfl) ?_ | refine awps_g0 rfl rfl rfl (by decide) rfl (by decide) (stp_load_elp1 rfl tf_S_api_Term rfl) ?_ | refine awps_g0 rfl rfl rfl (by decide) rfl (by decide) (stp_load_elpn rfl tf_S_api_Term rfl rfl rfl) ?_
  refine awps_g0 rfl rfl rfl (by decide) rfl (by decide) (stp_call (avs := [_]) true rfl en_almagestlaw0_Terms rfl rfl (Terms_ok p.K hp.2.1.1 hp.2.1.2) (fun _ => rfl) rfl) ?_
  refine awps_g0 rfl rfl rfl (by decide) rfl (by decide) (stp_binI rfl rfl rfl rfl) ?_
  refine awps_stp0 rfl rfl (by decide) (stp_pick rfl rfl rfl) ?_
  refine awps_stp0 rfl rfl (by decide) (stp_move (.inl rfl) rfl) ?_
  refine awps_split 13 rfl (fun g13 => ?_) (fun g13 => ?_)
  · try simp only [↓str_beq_t, ↓str_beq_f, decide_eq_true_eq, decide_eq_false_iff_not, Bool.not_eq_true', Bool.not_eq_false', Int.not_lt, Int.not_le, beq_iff_eq, beq_eq_false_iff_ne, bne_iff_ne, bne_eq_false_iff_eq, ne_eq] at g13
    refine awps_gs rfl rfl rfl rfl (by decide) rfl (by decide) ?_
    refine awps_gs rfl rfl rfl rfl (by decide) rfl (by decide) ?_
    refine awps_gs rfl rfl rfl rfl (by decide) rfl (by decide) ?_
    refine awps_gs rfl rfl rfl rfl (by decide) rfl (by decide) ?_
    refine awps_stp0 rfl rfl (by decide) (stp_pick rfl rfl rfl) ?_
    refine awps_stp0 rfl rfl (by decide) (stp_move (.inr rfl) rfl) ?_
    refine awps_nil ?_
    refine thenQ_nil ?_
    refine awp_ret ?_
    -- leaf g7Fg13T
    refine ret0 (noL hL) (.inl rfl) (resAs_tmp rfl (resAs_nil)) ?_ ?_
    · rfl
    refine ⟨bool_w ?_, rfl⟩
    simp_all [heavy11]
    try (intro h; omega)
  try simp only [↓str_beq_t, ↓str_beq_f, decide_eq_true_eq, decide_eq_false_iff_not, Bool.not_eq_true', Bool.not_eq_false', Int.not_lt, Int.not_le, beq_iff_eq, beq_eq_false_iff_ne, bne_iff_ne, bne_eq_false_iff_eq, ne_eq] at g13
  first | refine awps_g0 rfl rfl rfl (by decide) rfl (by decide) (stp_fieldAddr rfl fo_almagestlaw11_Ask_2 rfl) ?_ | refine awps_g0 rfl rfl rfl (by decide) rfl (by decide) (stp_fieldAddr_elp rfl fo_almagestlaw11_Ask_2 rfl) ?_
  first | refine awps_g0 rfl rfl rfl (by decide) rfl (by decide) (stp_load rfl tf_S_api_Term rfl rfl rfl rfl rfl) ?_ | refine awps_g0 rfl rfl rfl (by decide) rfl (by decide) (stp_load_elp1 rfl tf_S_api_Term rfl) ?_ | refine awps_g0 rfl rfl rfl (by decide) rfl (by decide) (stp_load_elpn rfl tf_S_api_Term rfl rfl rfl) ?_
  refine awps_g0 rfl rfl rfl (by decide) rfl (by decide) (stp_call (avs := [_]) true rfl en_almagestlaw0_Terms rfl rfl (Terms_ok p.T hp.2.2.1 hp.2.2.2) (fun _ => rfl) rfl) ?_
  refine awps_g0 rfl rfl rfl (by decide) rfl (by decide) (stp_binI rfl rfl rfl rfl) ?_
  refine awps_stp0 rfl rfl (by decide) (stp_pick rfl rfl rfl) ?_
  refine awps_stp0 rfl rfl (by decide) (stp_move (.inr rfl) rfl) ?_
  refine awps_nil ?_
  refine thenQ_nil ?_
  refine awp_ret ?_
  -- leaf g7Fg13F
  refine ret0 (noL hL) (.inl rfl) (resAs_tmp rfl (resAs_nil)) ?_ ?_
  · rfl
  refine ⟨bool_w ?_, rfl⟩
  simp_all [heavy11]
  try (intro h; omega)
def heavy12 (p : Ask12) : Bool := decide (1500 < wgtL wBs (wGs p.G + p.B.length) p.B) || heavy11 p.K
theorem Heavy12_ok (p : Ask12) (hp : p.wf) : PF 10 [.agg (lift false (a12D p))] (bv (heavy12 p)) := by
  obtain ⟨K, l, G⟩ := p
  obtain ⟨hpK, ⟨hl, hwB⟩, hlG, hwG⟩ := hp
  have hlen := bdlDs_length l
  have hlen2 : (bdlDs (Ask12.mk K l G).B).length = l.length := hlen
  have hrG := wGs_range G hlG hwG
  have hF : ∀ u, u ∈ l → 0 ≤ wBs u ∧ wBs u ≤ 9100000000000000 := fun u hu => by
    have := wBs_range u (hwB u hu).1 (hwB u hu).2; omega
  simp only [lenOk] at hl
  refine AC_intro Try.func10 rfl Try.ntmps10 (Nat.le_of_ble_eq_true rfl) fun c hL => ?_
  refine awp_seq ?_
  refine awp_region ?_
  refine awps_stp1 rfl rfl (by decide) (stp_box 1 rfl rfl rfl) rfl ?_
  refine awps_stp0 rfl rfl (by decide) (stp_move (.inr rfl) rfl) ?_
  refine awps_nil ?_
  refine thenQ_nil ?_
  refine awp_seq ?_
  refine awp_drawG 6 mixed rfl rfl rfl rfl ?_
  first | refine MGo_c0 rfl (by decide) (.run rfl (stp_fieldAddr rfl fo_almagestlaw12_Ask_2 rfl)) ?_ | refine MGo_c0 rfl (by decide) (.run rfl (stp_fieldAddr_elp rfl fo_almagestlaw12_Ask_2 rfl)) ?_
  first | refine MGo_c0 rfl (by decide) (.run rfl (stp_load rfl tf_S_api_Guard rfl rfl rfl rfl rfl)) ?_ | refine MGo_c0 rfl (by decide) (.run rfl (stp_load_elp1 rfl tf_S_api_Guard rfl)) ?_ | refine MGo_c0 rfl (by decide) (.run rfl (stp_load_elpn rfl tf_S_api_Guard rfl rfl rfl)) ?_
  refine MGo_c0 rfl (by decide) (.run rfl (stp_call (avs := [_]) true rfl en_almagestlaw0_GuardsWeight rfl rfl (GuardsWeight_ok G hlG hwG) (fun _ => rfl) rfl)) ?_
  first | refine MGo_c0 rfl (by decide) (.run rfl (stp_fieldAddr rfl fo_almagestlaw12_Ask_1 rfl)) ?_ | refine MGo_c0 rfl (by decide) (.run rfl (stp_fieldAddr_elp rfl fo_almagestlaw12_Ask_1 rfl)) ?_
  first | refine MGo_c0 rfl (by decide) (.run rfl (stp_load rfl tf_S_S_api_Bind rfl rfl rfl rfl rfl)) ?_ | refine MGo_c0 rfl (by decide) (.run rfl (stp_load_elp1 rfl tf_S_S_api_Bind rfl)) ?_ | refine MGo_c0 rfl (by decide) (.run rfl (stp_load_elpn rfl tf_S_S_api_Bind rfl rfl rfl)) ?_
  first | refine MGo_c0 rfl (by decide) (.run rfl (stp_len_dat rfl sl_S_S_api_Bind rfl)) ?_ | refine MGo_c0 rfl (by decide) (.run rfl (stp_len_rowd rfl sl_S_S_api_Bind rfl rfl)) ?_ | refine MGo_c0 rfl (by decide) (.run rfl (stp_len_nil rfl sl_S_S_api_Bind rfl)) ?_
  refine MGo_nil ⟨rfl, rfl, ?_⟩
  refine awps_stp0 rfl rfl (by decide) (stp_add rfl rfl rfl (by omega)) ?_
  refine awps_stp0 rfl rfl (by decide) (stp_move (.inr rfl) rfl) ?_
  refine awps_nil ?_
  refine thenQ_nil ?_
  refine awp_seq ?_
  refine awp_seq ?_
  refine awp_region ?_
  refine awps_stp0 rfl rfl (by decide) (stp_move (.inr rfl) rfl) ?_
  refine awps_nil ?_
  refine thenQ_nil ?_
  refine awp_block ?_
  refine awp_while (l.length) (fun k => k ≤ l.length ∧ ∀ j, j < k → wgtL wBs (wGs G + l.length) (l.take j) < 1048576) (fun k => ⟨[(1, .ptr 1 0), (3, iv (wgtL wBs (wGs G + l.length) (l.take k))), (4, iv (k : Int))], [(1, .box (lift false (a12D ⟨K, l, G⟩)))]⟩) (⟨by omega, fun j hj => absurd hj (by omega)⟩) ?_ (fun k hk hp => ?_)
  · exact sub_re (SubT.cons (lk_eq rfl (by first | rfl | simp)) (SubT.cons (lk_eq rfl (by exact int_imm (by simp only [List.take_zero, wgtL]; omega))) (SubT.cons (lk_eq rfl (by first | rfl | simp)) (SubT.nil)))) (SubO.cons (ok_eq rfl (by rfl)) (SubO.nil)) rfl rfl (noL' (noL hL) _)
  have hwk := wgtL_le wBs 9100000000000000 (by omega) (wGs G + l.length) (l.take k) (fun u hu => (hF u (List.mem_of_mem_take hu)).2) (by omega)
  have hw0 := wgtL_ge' wBs (wGs G + l.length) (l.take k) (fun u hu => (hF u (List.mem_of_mem_take hu)).1)
  refine awp_seq ?_
  refine awp_seq ?_
  refine awp_region ?_
  refine awps_stp0 rfl rfl (by decide) (stp_move (.inl rfl) rfl) ?_
  first | refine awps_stp0 rfl rfl (by decide) (stp_fieldAddr rfl fo_almagestlaw12_Ask_1 rfl) ?_ | refine awps_stp0 rfl rfl (by decide) (stp_fieldAddr_elp rfl fo_almagestlaw12_Ask_1 rfl) ?_
  first | refine awps_stp0 rfl rfl (by decide) (stp_load rfl tf_S_S_api_Bind rfl rfl rfl rfl rfl) ?_ | refine awps_stp0 rfl rfl (by decide) (stp_load_elp1 rfl tf_S_S_api_Bind rfl) ?_ | refine awps_stp0 rfl rfl (by decide) (stp_load_elpn rfl tf_S_S_api_Bind rfl rfl rfl) ?_
  first | refine awps_stp0 rfl rfl (by decide) (stp_len_dat rfl sl_S_S_api_Bind rfl) ?_ | refine awps_stp0 rfl rfl (by decide) (stp_len_rowd rfl sl_S_S_api_Bind rfl rfl) ?_ | refine awps_stp0 rfl rfl (by decide) (stp_len_nil rfl sl_S_S_api_Bind rfl) ?_
  refine awps_stp0 rfl rfl (by decide) (stp_binI rfl rfl rfl rfl) ?_
  refine awps_stp0 rfl rfl (by decide) (stp_move (.inl rfl) rfl) ?_
  refine awps_split 17 rfl (fun g17 => ?_) (fun g17 => ?_)
  · try simp only [↓str_beq_t, ↓str_beq_f, decide_eq_true_eq, decide_eq_false_iff_not, Bool.not_eq_true', Bool.not_eq_false', Int.not_lt, Int.not_le, beq_iff_eq, beq_eq_false_iff_ne, bne_iff_ne, bne_eq_false_iff_eq, ne_eq] at g17
    obtain ⟨u, hu⟩ := get_of_lt (l := l) (k := k) (by omega)
    have hum := List.mem_of_getElem? hu
    have huw := hF u hum
    have hul := hwB u hum
    refine awps_g0 rfl rfl rfl (by decide) rfl (by decide) (stp_move (.inl rfl) rfl) ?_
    refine awps_g0 rfl rfl rfl (by decide) rfl (by decide) (stp_binI rfl rfl rfl rfl) ?_
    refine awps_stp0 rfl rfl (by decide) (stp_pick rfl rfl rfl) ?_
    refine awps_nil ?_
    refine thenQ_nil ?_
    refine awp_cond rfl (fun c0 => ?_) (fun c0 => ?_)
    · try simp only [↓str_beq_t, ↓str_beq_f, decide_eq_true_eq, decide_eq_false_iff_not, Bool.not_eq_true', Bool.not_eq_false', Int.not_lt, Int.not_le, beq_iff_eq, beq_eq_false_iff_ne, bne_iff_ne, bne_eq_false_iff_eq, ne_eq] at c0
      refine awp_skip ?_
      refine thenQ_nil ?_
      refine awp_seq ?_
      refine awp_block ?_
      refine awp_region ?_
      refine awps_stp0 rfl rfl (by decide) (stp_move (.inl rfl) rfl) ?_
      first | refine awps_stp0 rfl rfl (by decide) (stp_fieldAddr rfl fo_almagestlaw12_Ask_1 rfl) ?_ | refine awps_stp0 rfl rfl (by decide) (stp_fieldAddr_elp rfl fo_almagestlaw12_Ask_1 rfl) ?_
      first | refine awps_stp0 rfl rfl (by decide) (stp_load rfl tf_S_S_api_Bind rfl rfl rfl rfl rfl) ?_ | refine awps_stp0 rfl rfl (by decide) (stp_load_elp1 rfl tf_S_S_api_Bind rfl) ?_ | refine awps_stp0 rfl rfl (by decide) (stp_load_elpn rfl tf_S_S_api_Bind rfl rfl rfl) ?_
      refine awps_stp0 rfl rfl (by decide) (stp_move (.inl rfl) rfl) ?_
      first | refine awps_stp0 rfl rfl (by decide) (stp_indexAddr rfl sl_S_S_api_Bind rfl rfl (by omega) (bdlDs_get hu)) ?_ | refine awps_stp0 rfl rfl (by decide) (stp_indexAddr_rowd rfl sl_S_S_api_Bind rfl rfl rfl (by omega) (bdlDs_get hu)) ?_ | refine awps_stp0 rfl rfl (by decide) (stp_indexAddr_row rfl sl_S_S_api_Bind rfl rfl rfl (by omega) (bdlDs_get hu) (by decide)) ?_
      first | refine awps_stp0 rfl rfl (by decide) (stp_load rfl tf_S_api_Bind rfl rfl rfl rfl rfl) ?_ | refine awps_stp0 rfl rfl (by decide) (stp_load_elp1 rfl tf_S_api_Bind rfl) ?_ | refine awps_stp0 rfl rfl (by decide) (stp_load_elpn rfl tf_S_api_Bind rfl rfl rfl) ?_
      refine awps_call (avs := [_]) true rfl rfl rfl (by decide) en_almagestlaw0_BindsWeight rfl rfl (BindsWeight_ok u hul.1 hul.2) rfl rfl ?_
      refine awps_stp0 rfl rfl (by decide) (stp_add rfl rfl rfl (by omega)) ?_
      refine awps_stp0 rfl rfl (by decide) (stp_move (.inr rfl) rfl) ?_
      refine awps_nil ?_
      refine inQ_nil ?_
      refine thenQ_nil ?_
      refine awp_region ?_
      refine awps_stp0 rfl rfl (by decide) (stp_move (.inl rfl) rfl) ?_
      refine awps_stp0 rfl rfl (by decide) (stp_add rfl rfl rfl (by omega)) ?_
      refine awps_stp0 rfl rfl (by decide) (stp_move (.inr rfl) rfl) ?_
      refine awps_nil ?_
      have hb := wgtL_snoc wBs (wGs G + l.length) (l.take k) u (fun j hj => by
        by_cases hjk : j < k
        · have := hp.2 j hjk; rwa [List.take_take, Nat.min_eq_left (by omega)]
        · rw [List.take_of_length_le (by simp; omega)]; omega)
      rw [← take_snoc hu] at hb
      refine thenQ_nil ?_
      refine ⟨?_, ?_, ?_⟩
      · skip
        omega
      · skip
        refine ⟨by omega, fun j hj => ?_⟩
        by_cases hjk : j < k
        · exact hp.2 j hjk
        · rw [show j = k by omega]; omega
      exact sub_re (SubT.cons (lk_eq rfl (by first | rfl | simp)) (SubT.cons (lk_eq rfl (by exact int_imm (by rw [hb]; try omega))) (SubT.cons (lk_eq rfl (by first | rfl | simp)) (SubT.nil)))) (SubO.cons (ok_eq rfl (by rfl)) (SubO.nil)) rfl rfl (noL' (noL hL) _)
    try simp only [↓str_beq_t, ↓str_beq_f, decide_eq_true_eq, decide_eq_false_iff_not, Bool.not_eq_true', Bool.not_eq_false', Int.not_lt, Int.not_le, beq_iff_eq, beq_eq_false_iff_ne, bne_iff_ne, bne_eq_false_iff_eq, ne_eq] at c0
    have hfin : wgtL wBs (wGs G + l.length) (l.take k) = wgtL wBs (wGs G + l.length) l := ((wgtL_take wBs _ _ k hp.1 hp.2).trans (wgtL_stop _ _ _ (by omega))).symm
    refine awp_exit ?_
    refine thenQ_exit (thenQ_exit (inQ_hit ?_))
    refine thenQ_nil ?_
    refine awp_seq ?_
    refine awp_region ?_
    refine awps_stp0 rfl rfl (by decide) (stp_move (.inl rfl) rfl) ?_
    refine awps_stp0 rfl rfl (by decide) (stp_binI rfl rfl rfl rfl) ?_
    refine awps_stp0 rfl rfl (by decide) (stp_move (.inl rfl) rfl) ?_
    refine awps_split 33 rfl (fun g33 => ?_) (fun g33 => ?_)
    · try simp only [↓str_beq_t, ↓str_beq_f, decide_eq_true_eq, decide_eq_false_iff_not, Bool.not_eq_true', Bool.not_eq_false', Int.not_lt, Int.not_le, beq_iff_eq, beq_eq_false_iff_ne, bne_iff_ne, bne_eq_false_iff_eq, ne_eq] at g33
      refine awps_gs rfl rfl rfl rfl (by decide) rfl (by decide) ?_
      refine awps_gs rfl rfl rfl rfl (by decide) rfl (by decide) ?_
      refine awps_gs rfl rfl rfl rfl (by decide) rfl (by decide) ?_
      refine awps_stp0 rfl rfl (by decide) (stp_pick rfl rfl rfl) ?_
      refine awps_stp0 rfl rfl (by decide) (stp_move (.inr rfl) rfl) ?_
      refine awps_nil ?_
      refine thenQ_nil ?_
      refine awp_ret ?_
      -- leaf g17T0Fg33T
      refine ret0 (noL hL) (.inl rfl) (resAs_tmp rfl (resAs_nil)) ?_ ?_
      · rfl
      refine ⟨bool_w ?_, rfl⟩
      rw [hfin] at g33
      simp only [heavy12]
      first | (rw [decide_eq_true (by omega)]; rfl) | (rw [decide_eq_false (by omega)]; rfl)
    try simp only [↓str_beq_t, ↓str_beq_f, decide_eq_true_eq, decide_eq_false_iff_not, Bool.not_eq_true', Bool.not_eq_false', Int.not_lt, Int.not_le, beq_iff_eq, beq_eq_false_iff_ne, bne_iff_ne, bne_eq_false_iff_eq, ne_eq] at g33
    first | refine awps_g0 rfl rfl rfl (by decide) rfl (by decide) (stp_fieldAddr rfl fo_almagestlaw12_Ask_0 rfl) ?_ | refine awps_g0 rfl rfl rfl (by decide) rfl (by decide) (stp_fieldAddr_elp rfl fo_almagestlaw12_Ask_0 rfl) ?_
    first | refine awps_g0 rfl rfl rfl (by decide) rfl (by decide) (stp_load_all rfl tf_almagestlaw11_Ask rfl rfl rfl rfl) ?_ | refine awps_g0 rfl rfl rfl (by decide) rfl (by decide) (stp_load rfl tf_almagestlaw11_Ask rfl rfl rfl rfl rfl) ?_ | refine awps_g0 rfl rfl rfl (by decide) rfl (by decide) (stp_load_elpa rfl tf_almagestlaw11_Ask rfl rfl) ?_ | refine awps_g0 rfl rfl rfl (by decide) rfl (by decide) (stp_load_elpn rfl tf_almagestlaw11_Ask rfl rfl rfl) ?_
    refine awps_g0 rfl rfl rfl (by decide) rfl (by decide) (stp_call (avs := [_]) true rfl en_almagestlaw11_Heavy rfl rfl (Heavy11_ok K hpK) (fun _ => rfl) rfl) ?_
    refine awps_stp0 rfl rfl (by decide) (stp_pick rfl rfl rfl) ?_
    refine awps_stp0 rfl rfl (by decide) (stp_move (.inr rfl) rfl) ?_
    refine awps_nil ?_
    refine thenQ_nil ?_
    refine awp_ret ?_
    -- leaf g17T0Fg33F
    refine ret0 (noL hL) (.inl rfl) (resAs_tmp rfl (resAs_nil)) ?_ ?_
    · rfl
    refine ⟨bool_w ?_, rfl⟩
    rw [hfin] at g33
    simp only [heavy12]
    first | (rw [decide_eq_true (by omega)]; rfl) | (rw [decide_eq_false (by omega)]; rfl)
  try simp only [↓str_beq_t, ↓str_beq_f, decide_eq_true_eq, decide_eq_false_iff_not, Bool.not_eq_true', Bool.not_eq_false', Int.not_lt, Int.not_le, beq_iff_eq, beq_eq_false_iff_ne, bne_iff_ne, bne_eq_false_iff_eq, ne_eq] at g17
  have hfin : wgtL wBs (wGs G + l.length) (l.take k) = wgtL wBs (wGs G + l.length) l := by rw [List.take_of_length_le (by omega)]
  refine awps_gs rfl rfl rfl rfl (by decide) rfl (by decide) ?_
  refine awps_gs rfl rfl rfl rfl (by decide) rfl (by decide) ?_
  refine awps_stp0 rfl rfl (by decide) (stp_pick rfl rfl rfl) ?_
  refine awps_nil ?_
  refine thenQ_nil ?_
  refine awp_condF rfl ?_
  refine awp_exit ?_
  refine thenQ_exit (thenQ_exit (inQ_hit ?_))
  refine thenQ_nil ?_
  refine awp_seq ?_
  refine awp_region ?_
  refine awps_stp0 rfl rfl (by decide) (stp_move (.inl rfl) rfl) ?_
  refine awps_stp0 rfl rfl (by decide) (stp_binI rfl rfl rfl rfl) ?_
  refine awps_stp0 rfl rfl (by decide) (stp_move (.inl rfl) rfl) ?_
  refine awps_split 33 rfl (fun g33 => ?_) (fun g33 => ?_)
  · try simp only [↓str_beq_t, ↓str_beq_f, decide_eq_true_eq, decide_eq_false_iff_not, Bool.not_eq_true', Bool.not_eq_false', Int.not_lt, Int.not_le, beq_iff_eq, beq_eq_false_iff_ne, bne_iff_ne, bne_eq_false_iff_eq, ne_eq] at g33
    refine awps_gs rfl rfl rfl rfl (by decide) rfl (by decide) ?_
    refine awps_gs rfl rfl rfl rfl (by decide) rfl (by decide) ?_
    refine awps_gs rfl rfl rfl rfl (by decide) rfl (by decide) ?_
    refine awps_stp0 rfl rfl (by decide) (stp_pick rfl rfl rfl) ?_
    refine awps_stp0 rfl rfl (by decide) (stp_move (.inr rfl) rfl) ?_
    refine awps_nil ?_
    refine thenQ_nil ?_
    refine awp_ret ?_
    -- leaf g17Fg33T
    refine ret0 (noL hL) (.inl rfl) (resAs_tmp rfl (resAs_nil)) ?_ ?_
    · rfl
    refine ⟨bool_w ?_, rfl⟩
    rw [hfin] at g33
    simp only [heavy12]
    first | (rw [decide_eq_true (by omega)]; rfl) | (rw [decide_eq_false (by omega)]; rfl)
  try simp only [↓str_beq_t, ↓str_beq_f, decide_eq_true_eq, decide_eq_false_iff_not, Bool.not_eq_true', Bool.not_eq_false', Int.not_lt, Int.not_le, beq_iff_eq, beq_eq_false_iff_ne, bne_iff_ne, bne_eq_false_iff_eq, ne_eq] at g33
  first | refine awps_g0 rfl rfl rfl (by decide) rfl (by decide) (stp_fieldAddr rfl fo_almagestlaw12_Ask_0 rfl) ?_ | refine awps_g0 rfl rfl rfl (by decide) rfl (by decide) (stp_fieldAddr_elp rfl fo_almagestlaw12_Ask_0 rfl) ?_
  first | refine awps_g0 rfl rfl rfl (by decide) rfl (by decide) (stp_load_all rfl tf_almagestlaw11_Ask rfl rfl rfl rfl) ?_ | refine awps_g0 rfl rfl rfl (by decide) rfl (by decide) (stp_load rfl tf_almagestlaw11_Ask rfl rfl rfl rfl rfl) ?_ | refine awps_g0 rfl rfl rfl (by decide) rfl (by decide) (stp_load_elpa rfl tf_almagestlaw11_Ask rfl rfl) ?_ | refine awps_g0 rfl rfl rfl (by decide) rfl (by decide) (stp_load_elpn rfl tf_almagestlaw11_Ask rfl rfl rfl) ?_
  refine awps_g0 rfl rfl rfl (by decide) rfl (by decide) (stp_call (avs := [_]) true rfl en_almagestlaw11_Heavy rfl rfl (Heavy11_ok K hpK) (fun _ => rfl) rfl) ?_
  refine awps_stp0 rfl rfl (by decide) (stp_pick rfl rfl rfl) ?_
  refine awps_stp0 rfl rfl (by decide) (stp_move (.inr rfl) rfl) ?_
  refine awps_nil ?_
  refine thenQ_nil ?_
  refine awp_ret ?_
  -- leaf g17Fg33F
  refine ret0 (noL hL) (.inl rfl) (resAs_tmp rfl (resAs_nil)) ?_ ?_
  · rfl
  refine ⟨bool_w ?_, rfl⟩
  rw [hfin] at g33
  simp only [heavy12]
  first | (rw [decide_eq_true (by omega)]; rfl) | (rw [decide_eq_false (by omega)]; rfl)

end Go.Proofs.Ytdecgkhdbfgldaa
