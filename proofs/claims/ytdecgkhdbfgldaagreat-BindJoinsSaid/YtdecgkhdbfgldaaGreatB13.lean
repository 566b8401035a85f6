/- Part 13 of the proof: Hj. -/
import Derived.Test.YtdecgkhdbfgldaaGreatB12
set_option linter.unusedVariables false
set_option linter.unusedSimpArgs false
set_option maxRecDepth 8000
namespace Go.Proofs.YtdecgkhdbfgldaaGreat
open Go
theorem ground_fix {l : List Bd} (hm : ∀ b ∈ l, mayT b.t = true) : groundL l = fixB l := by
  have e1 : groundL l = true ↔ ∀ y, y ∉ noteL 5 (l.map Bd.t) := by
    rw [groundL, List.isEmpty_iff]
    exact List.eq_nil_iff_forall_not_mem
  have e2 : ∀ b ∈ l, (groundB b.t = true ↔ ∀ y, ¬ b.t.occ y) := fun b hb => by
    rw [groundB, List.isEmpty_iff, List.eq_nil_iff_forall_not_mem]
    constructor
    · intro h y hy; exact h y ((note_occ y 5 b.t (may_dle (hm b hb))).2 hy)
    · intro h y hy; exact h y ((note_occ y 5 b.t (may_dle (hm b hb))).1 hy)
  have hd : ∀ t ∈ l.map Bd.t, dle 5 t := fun t ht => by
    obtain ⟨b, hb, rfl⟩ := List.mem_map.1 ht; exact may_dle (hm b hb)
  rw [Bool.eq_iff_iff, e1, fixB, List.all_eq_true]
  constructor
  · intro h b hb
    exact (e2 b hb).2 fun y hy => h y ((noteL5 hd y).2 ⟨b.t, List.mem_map.2 ⟨b, hb, rfl⟩, hy⟩)
  · intro h y hy
    obtain ⟨t, ht, ho⟩ := (noteL5 hd y).1 hy
    obtain ⟨b, hb, rfl⟩ := List.mem_map.1 ht
    exact (e2 b hb).1 (h b hb) y ho
theorem join_of {a b : List Bd} (ha : ∀ x ∈ a, x.wf) (hb : ∀ x ∈ b, x.wf) (h1 : mayB a = true) (h2 : mayB b = true) (h3 : fixB a = true) (h4 : fixB b = true) : joinE a b = bothE a b ∧ joinL a b = bothL a b := by
  have g1 := ground_fix (l := a) fun x hx => ((mayB_bok h1 ha).el x hx).2
  have g2 := ground_fix (l := b) fun x hx => ((mayB_bok h2 hb).el x hx).2
  have hc : joinC a b = true := by simp [joinC, h1, h2, g1, g2, h3, h4]
  rw [joinE, joinL, if_pos hc, if_pos hc]
  exact ⟨rfl, rfl⟩
theorem join_no {a b : List Bd} (ha : ∀ x ∈ a, x.wf) (hb : ∀ x ∈ b, x.wf) (h : ¬ (mayB a = true ∧ mayB b = true ∧ fixB a = true ∧ fixB b = true)) : joinE a b = 1 ∧ joinL a b = [] := by
  have hc : joinC a b = false := by
    cases hc : joinC a b with
    | false => rfl
    | true =>
      simp only [joinC, Bool.and_eq_true] at hc
      have g1 := ground_fix (l := a) fun x hx => ((mayB_bok hc.1.1.1 ha).el x hx).2
      have g2 := ground_fix (l := b) fun x hx => ((mayB_bok hc.1.1.2 hb).el x hx).2
      exact absurd ⟨hc.1.1.1, hc.1.1.2, by rw [← g1]; exact hc.1.2, by rw [← g2]; exact hc.2⟩ h
  rw [joinE, joinL, if_neg (by simp [hc]), if_neg (by simp [hc])]
  exact ⟨rfl, rfl⟩
theorem Only_okP (l : List Bd) (hw : ∀ b ∈ l, b.wf) (ns : List ByteArray) (hn : ns.length ≤ 140737488351232) : PF 36 [bdA l, .dat false 1 (strDs ns)] (.tup [bdA (onlyL l ns), iv (onlyE l)]) :=
  AC_leP (Only_ok l hw ns hn) (fun r O' h => by
    obtain ⟨v, rfl, ⟨rfl, h1⟩ | rfl, rfl⟩ := h
    · exact ⟨_, .tup (.cons (.nil (f := false) (k := 5)) (.cons .refl .nil)), by rw [h1]; rfl, rfl⟩
    · exact ⟨_, .refl, rfl, rfl⟩)
theorem onlyL_mem {l : List Bd} {ns : List ByteArray} {b : Bd} (h : b ∈ onlyL l ns) : b ∈ l := by
  unfold onlyL at h
  split at h
  · exact (List.mem_filter.1 h).1
  · cases h
theorem onlyL_len (l : List Bd) (ns : List ByteArray) : (onlyL l ns).length ≤ l.length := by
  unfold onlyL
  split
  · exact List.length_filter_le _ _
  · simp
theorem BindJoins_ok (p : Ask2) (hp : p.wf) : PF 4 [.agg (lift false (a2D p))] (bv true) := by
  obtain ⟨l, T, S⟩ := p
  obtain ⟨⟨hl, hwB⟩, ⟨hlT, hwT⟩, hlS, hwS⟩ := id hp
  have hlen := bdlDs_length l
  have hlen2 : (bdlDs (Ask2.mk l T S).B).length = l.length := hlen
  simp only [lenOk] at hl hlT hlS
  have hwf : (Ask2.mk l T S).wf := hp
  refine AC_intro Tryz.func4 rfl Tryz.ntmps4 (Nat.le_of_ble_eq_true rfl) fun c hL hQ hDD => ?_; refine awp_seq ?_; refine awp_region ?_; refine awps_stp1 rfl rfl (by decide) (stp_box 1 rfl rfl rfl) rfl ?_; refine awps_stp0 rfl rfl (by decide) (stp_move (.inr rfl) rfl) ?_; refine awps_nil ?_; refine thenQ_nil ?_; refine awp_seq ?_; refine awp_seq ?_; refine awp_region ?_; refine awps_stp0 rfl rfl (by decide) (stp_load_all rfl tf_almagestlaw2_Ask rfl rfl rfl rfl) ?_
  refine awps_call (avs := [_]) true rfl rfl rfl (by decide) en_almagestlaw2_Heavy rfl rfl (Heavy2_ok _ (by assumption)) rfl rfl ?_; refine awps_nil ?_; refine thenQ_nil ?_; refine awp_cond rfl (fun c0 => ?_) (fun c0 => ?_)
  · try simp only [↓cqA, cqB] at c0
    refine awp_seq ?_; refine awp_region ?_; refine awps_stp0 rfl rfl (by decide) (stp_move (.inr rfl) rfl) ?_; refine awps_nil ?_; refine thenQ_nil ?_; refine awp_ret ?_; refine thenQ_ret (?_)
    -- leaf 0T
    refine ret0 (noL hL) (.inl rfl) (resAs_tmp rfl (resAs_nil)) ?_ ?_
    · rfl
    first
    | exact ⟨rfl, rfl⟩
    | exact absurd trivial (by assumption)
    | exact absurd rfl (by assumption)
    | exact Bool.noConfusion (show true = false by assumption)
    | trace_state
  try simp only [↓cqA, cqB] at c0
  obtain ⟨hv1, hv2, hv3, hv4⟩ := heavy2_no hwf c0
  simp only at hv1 hv2 hv3 hv4
  have hvd : ∀ b ∈ l, ∀ x ∈ b, dle 30 x.t := heavy2_dle hwf c0
  refine awp_skip ?_; refine thenQ_nil ?_; refine awp_seq ?_; refine awp_seq ?_; refine awp_region ?_; refine awps_stp0 rfl rfl (by decide) (stp_move (.inr rfl) rfl) ?_; refine awps_nil ?_; refine thenQ_nil ?_; refine awp_block ?_; refine awp_while (6) (fun _ => True) (fun k => ⟨[(1, .ptr 1 0), (3, iv (k : Int))], [(1, .box (lift false (a2D ⟨l, T, S⟩)))]⟩) (trivial) ?_ (fun k hk hp => ?_)
  · exact sub_re (SubT.cons (lk_eq rfl (by first | rfl | simp)) (SubT.cons (lk_eq rfl (by first | rfl | simp)) (SubT.nil))) (SubO.cons (ok_eq rfl (by rfl)) (SubO.nil)) rfl rfl (noL' (noL hL) _)
  refine awp_seq ?_; refine awp_seq ?_; refine awp_region ?_; refine awps_stp0 rfl rfl (by decide) (stp_move (.inl rfl) rfl) ?_; refine awps_stp0 rfl rfl (by decide) (stp_fieldAddr rfl fo_almagestlaw2_Ask_0 rfl) ?_; refine awps_stp0 rfl rfl (by decide) (stp_load rfl tf_S_S_api_Bind rfl rfl rfl rfl rfl) ?_; refine awps_stp0 rfl rfl (by decide) (stp_len_dat rfl sl_S_S_api_Bind rfl) ?_; refine awps_stp0 rfl rfl (by decide) (stp_binI rfl rfl rfl rfl) ?_; refine awps_stp0 rfl rfl (by decide) (stp_move (.inl rfl) rfl) ?_; refine awps_split 22 rfl (fun g22 => ?_) (fun g22 => ?_)
  · try simp only [↓cqA, cqB] at g22
    refine awps_g0 rfl rfl rfl (by decide) rfl (by decide) (stp_move (.inl rfl) rfl) ?_; refine awps_g0 rfl rfl rfl (by decide) rfl (by decide) (stp_binI rfl rfl rfl rfl) ?_; refine awps_stp0 rfl rfl (by decide) (stp_pick rfl rfl rfl) ?_; refine awps_nil ?_; refine thenQ_nil ?_; refine awp_cond rfl (fun c1 => ?_) (fun c1 => ?_)
    · try simp only [↓cqA, cqB] at c1
      obtain ⟨bs, hbs⟩ := get_of_lt (l := l) (k := k) (by omega)
      have hbm := List.mem_of_getElem? hbs
      have hbw := (hwB bs hbm).2
      have hb3 := hv4 bs hbm
      have hbl := bdDs_length bs
      have hb30 := hvd bs hbm
      have how : ∀ x ∈ onlyL bs S, x.wf := fun x hx => hbw x (onlyL_mem hx)
      have hod : ∀ x ∈ onlyL bs S, dle 30 x.t := fun x hx => hb30 x (onlyL_mem hx)
      have hol := onlyL_len bs S
      refine awp_skip ?_; refine thenQ_nil ?_; refine awp_seq ?_; refine awp_block ?_; refine awp_seq ?_; refine awp_seq ?_; refine awp_region ?_; refine awps_stp0 rfl rfl (by decide) (stp_move (.inr rfl) rfl) ?_; refine awps_nil ?_; refine thenQ_nil ?_; refine awp_block ?_; refine awp_while (6) (fun _ => True) (fun s => ⟨[(1, .ptr 1 0), (3, iv (k : Int)), (4, iv (s : Int))], [(1, .box (lift false (a2D ⟨l, T, S⟩)))]⟩) (trivial) ?_ (fun s hs hps => ?_)
      · exact sub_re (SubT.cons (lk_eq rfl (by first | rfl | simp)) (SubT.cons (lk_eq rfl (by first | rfl | simp)) (SubT.cons (lk_eq rfl (by first | rfl | simp)) (SubT.nil)))) (SubO.cons (ok_eq rfl (by rfl)) (SubO.nil)) rfl rfl (noL' (noL hL) _)
      refine awp_seq ?_; refine awp_seq ?_; refine awp_region ?_; refine awps_stp0 rfl rfl (by decide) (stp_move (.inl rfl) rfl) ?_; refine awps_stp0 rfl rfl (by decide) (stp_fieldAddr rfl fo_almagestlaw2_Ask_0 rfl) ?_; refine awps_stp0 rfl rfl (by decide) (stp_load rfl tf_S_S_api_Bind rfl rfl rfl rfl rfl) ?_; refine awps_stp0 rfl rfl (by decide) (stp_len_dat rfl sl_S_S_api_Bind rfl) ?_; refine awps_stp0 rfl rfl (by decide) (stp_binI rfl rfl rfl rfl) ?_; refine awps_stp0 rfl rfl (by decide) (stp_move (.inl rfl) rfl) ?_; refine awps_split 33 rfl (fun g33 => ?_) (fun g33 => ?_)
      · try simp only [↓cqA, cqB] at g33
        refine awps_g0 rfl rfl rfl (by decide) rfl (by decide) (stp_move (.inl rfl) rfl) ?_; refine awps_g0 rfl rfl rfl (by decide) rfl (by decide) (stp_binI rfl rfl rfl rfl) ?_; refine awps_stp0 rfl rfl (by decide) (stp_pick rfl rfl rfl) ?_; refine awps_nil ?_; refine thenQ_nil ?_; refine awp_cond rfl (fun c2 => ?_) (fun c2 => ?_)
        · try simp only [↓cqA, cqB] at c2
          obtain ⟨cs, hcs⟩ := get_of_lt (l := l) (k := s) (by omega)
          have hcm := List.mem_of_getElem? hcs
          have hcw := (hwB cs hcm).2
          have hc3 := hv4 cs hcm
          have hc30 := hvd cs hcm
          obtain ⟨_, _, hjw⟩ := join_comm hbw hcw
          have hjl := joinL_len bs cs
          refine awp_skip ?_; refine thenQ_nil ?_; refine awp_seq ?_; refine awp_block ?_; refine awp_seq ?_; refine awp_drawG 11 mixed rfl rfl rfl rfl ?_; refine MGo_c0 rfl (by decide) (.run rfl (stp_fieldAddr rfl fo_almagestlaw2_Ask_0 rfl)) ?_; refine MGo_c0 rfl (by decide) (.run rfl (stp_load rfl tf_S_S_api_Bind rfl rfl rfl rfl rfl)) ?_; refine MGo_c0 rfl (by decide) (.run rfl (stp_move (.inl rfl) rfl)) ?_; refine MGo_c0 rfl (by decide) (.run rfl (stp_indexAddr rfl sl_S_S_api_Bind rfl rfl (by omega) (bdlDs_get hbs))) ?_
          refine MGo_c0 rfl (by decide) (.run rfl (stp_load_elp1 rfl tf_S_api_Bind rfl)) ?_; refine MGo_u rfl rfl (by decide) (stpU_call (avs := [_]) true rfl en_almagestref0_CopyBinds rfl rfl (AC_rnE 3 77 (CopyBinds_ok 30 bs (by omega) hb30 hbw)) (fun _ => rfl) rfl) ?_; refine MGo_c0 rfl (by decide) (.run rfl (stp_fieldAddr rfl fo_almagestlaw2_Ask_0 rfl)) ?_; refine MGo_c0 rfl (by decide) (.run rfl (stp_load rfl tf_S_S_api_Bind rfl rfl rfl rfl rfl)) ?_; refine MGo_c0 rfl (by decide) (.run rfl (stp_move (.inl rfl) rfl)) ?_
          refine MGo_c0 rfl (by decide) (.run rfl (stp_indexAddr rfl sl_S_S_api_Bind rfl rfl (by omega) (bdlDs_get hcs))) ?_; refine MGo_c0 rfl (by decide) (.run rfl (stp_load_elp1 rfl tf_S_api_Bind rfl)) ?_; refine MGo_nil ⟨rfl, rfl, ?_⟩; refine awps_u rfl rfl (by decide) (stpU_call (avs := [_]) true rfl en_almagestref0_CopyBinds rfl rfl (AC_rnE 3 78 (CopyBinds_ok 30 cs (by omega) hc30 hcw)) (fun _ => rfl) rfl) rfl ?_; refine awps_stp0 rfl rfl (by decide) (stp_move (.inr rfl) rfl) ?_; refine awps_stp0 rfl rfl (by decide) (stp_move (.inr rfl) rfl) ?_; refine awps_nil ?_
          refine thenQ_nil ?_; refine awp_seq ?_; refine awp_sub (sub_freeze (l := 77) rfl (by decide) (noL hL _) rfl rfl) ?_; refine awp_sub (sub_freeze (l := 78) rfl (by decide) (noL hL _) rfl rfl) ?_; refine awp_sub (sub_untag hQ) ?_; refine awp_region ?_; refine awps_stp0 rfl rfl (by decide) (stp_move (.inl rfl) rfl) ?_
          refine awps_stp0 rfl rfl (by decide) (stp_move (.inl rfl) rfl) ?_; refine awps_call (avs := [_, _]) true rfl rfl rfl (by decide) en_bind_Join rfl rfl (Join_ok bs cs hbw hcw) rfl rfl ?_; refine awps_stp0 rfl rfl (by decide) (stp_move (.inl rfl) rfl) ?_; refine awps_stp0 rfl rfl (by decide) (stp_extract rfl rfl rfl) ?_
          refine awps_stp0 rfl rfl (by decide) (stp_extract rfl rfl rfl) ?_; refine awps_stp0 rfl rfl (by decide) (stp_move (.inr rfl) rfl) ?_; refine awps_stp0 rfl rfl (by decide) (stp_move (.inr rfl) rfl) ?_; refine awps_nil ?_; refine thenQ_nil ?_; refine awp_seq ?_; refine awp_region ?_; refine awps_stp0 rfl rfl (by decide) (stp_move (.inr rfl) rfl) ?_; refine awps_nil ?_; refine thenQ_nil ?_; refine awp_seq ?_; refine awp_region ?_; refine awps_stp0 rfl rfl (by decide) (stp_move (.inr rfl) rfl) ?_; refine awps_nil ?_; refine thenQ_nil ?_
          refine awp_cut ⟨[(1, .ptr 1 0), (3, iv (k : Int)), (4, iv (s : Int)), (5, bdA bs), (6, bdA cs), (7, .dat true 5 (bdDs (joinL bs cs))), (8, iv (joinE bs cs)), (9, iv (joinE bs cs)), (10, .dat true 5 (bdDs (joinL bs cs)))], [(1, .box (lift false (a2D ⟨l, T, S⟩)))]⟩ ?_ ?_
          · skip
            refine awp_seq ?_; refine awp_sub (sub_nil_dat (t := 10) 5 true rfl) ?_; refine awp_region ?_; refine awps_stp0 rfl rfl (by decide) (stp_fieldAddr rfl fo_almagestlaw2_Ask_0 rfl) ?_; refine awps_stp0 rfl rfl (by decide) (stp_load rfl tf_S_S_api_Bind rfl rfl rfl rfl rfl) ?_; refine awps_stp0 rfl rfl (by decide) (stp_move (.inl rfl) rfl) ?_; refine awps_stp0 rfl rfl (by decide) (stp_indexAddr rfl sl_S_S_api_Bind rfl rfl (by omega) (bdlDs_get hbs)) ?_; refine awps_stp0 rfl rfl (by decide) (stp_load_elp1 rfl tf_S_api_Bind rfl) ?_
            refine awps_call (avs := [_]) true rfl rfl rfl (by decide) en_almagestref1_Binds rfl rfl (rBinds_ok bs (by omega) hbw) rfl rfl ?_; refine awps_stp0 rfl rfl (by decide) (stp_move (.inl rfl) rfl) ?_; refine awps_split 63 rfl (fun g63 => ?_) (fun g63 => ?_)
            · try simp only [↓cqA, cqB] at g63
              refine awps_g0 rfl rfl rfl (by decide) rfl (by decide) (stp_fieldAddr rfl fo_almagestlaw2_Ask_0 rfl) ?_; refine awps_g0 rfl rfl rfl (by decide) rfl (by decide) (stp_load rfl tf_S_S_api_Bind rfl rfl rfl rfl rfl) ?_; refine awps_g0 rfl rfl rfl (by decide) rfl (by decide) (stp_move (.inl rfl) rfl) ?_; refine awps_g0 rfl rfl rfl (by decide) rfl (by decide) (stp_indexAddr rfl sl_S_S_api_Bind rfl rfl (by omega) (bdlDs_get hcs)) ?_; refine awps_g0 rfl rfl rfl (by decide) rfl (by decide) (stp_load_elp1 rfl tf_S_api_Bind rfl) ?_
              refine awps_g0 rfl rfl rfl (by decide) rfl (by decide) (stp_call (avs := [_]) true rfl en_almagestref1_Binds rfl rfl (rBinds_ok cs (by omega) hcw) (fun _ => rfl) rfl) ?_; refine awps_stp0 rfl rfl (by decide) (stp_pick rfl rfl rfl) ?_; refine awps_stp0 rfl rfl (by decide) (stp_move (.inl rfl) rfl) ?_; refine awps_split 71 rfl (fun g71 => ?_) (fun g71 => ?_)
              · try simp only [↓cqA, cqB] at g71
                refine awps_g0 rfl rfl rfl (by decide) rfl (by decide) (stp_fieldAddr rfl fo_almagestlaw2_Ask_0 rfl) ?_; refine awps_g0 rfl rfl rfl (by decide) rfl (by decide) (stp_load rfl tf_S_S_api_Bind rfl rfl rfl rfl rfl) ?_; refine awps_g0 rfl rfl rfl (by decide) rfl (by decide) (stp_move (.inl rfl) rfl) ?_; refine awps_g0 rfl rfl rfl (by decide) rfl (by decide) (stp_indexAddr rfl sl_S_S_api_Bind rfl rfl (by omega) (bdlDs_get hbs)) ?_; refine awps_g0 rfl rfl rfl (by decide) rfl (by decide) (stp_load_elp1 rfl tf_S_api_Bind rfl) ?_
                refine awps_g0 rfl rfl rfl (by decide) rfl (by decide) (stp_call (avs := [_]) true rfl en_almagestref1_Fixed rfl rfl (rFixed_ok bs (by omega) hbw (fun b hb => ((mayB_bok (by assumption) hbw).el b hb).2)) (fun _ => rfl) rfl) ?_; refine awps_stp0 rfl rfl (by decide) (stp_pick rfl rfl rfl) ?_; refine awps_stp0 rfl rfl (by decide) (stp_move (.inl rfl) rfl) ?_; refine awps_split 79 rfl (fun g79 => ?_) (fun g79 => ?_)
                · try simp only [↓cqA, cqB] at g79
                  refine awps_g0 rfl rfl rfl (by decide) rfl (by decide) (stp_fieldAddr rfl fo_almagestlaw2_Ask_0 rfl) ?_; refine awps_g0 rfl rfl rfl (by decide) rfl (by decide) (stp_load rfl tf_S_S_api_Bind rfl rfl rfl rfl rfl) ?_; refine awps_g0 rfl rfl rfl (by decide) rfl (by decide) (stp_move (.inl rfl) rfl) ?_; refine awps_g0 rfl rfl rfl (by decide) rfl (by decide) (stp_indexAddr rfl sl_S_S_api_Bind rfl rfl (by omega) (bdlDs_get hcs)) ?_; refine awps_g0 rfl rfl rfl (by decide) rfl (by decide) (stp_load_elp1 rfl tf_S_api_Bind rfl) ?_
                  refine awps_g0 rfl rfl rfl (by decide) rfl (by decide) (stp_call (avs := [_]) true rfl en_almagestref1_Fixed rfl rfl (rFixed_ok cs (by omega) hcw (fun b hb => ((mayB_bok (by assumption) hcw).el b hb).2)) (fun _ => rfl) rfl) ?_; refine awps_stp0 rfl rfl (by decide) (stp_pick rfl rfl rfl) ?_; refine awps_nil ?_; refine thenQ_nil ?_; refine awp_cond rfl (fun c3 => ?_) (fun c3 => ?_)
                  · try simp only [↓cqA, cqB] at c3
                    obtain ⟨hE, hL1⟩ := join_of hbw hcw g63 g71 g79 c3
                    have hokb := mayB_bok g63 hbw
                    have hokc := mayB_bok g71 hcw
                    refine awp_drawG 15 mixed rfl rfl rfl rfl ?_; refine MGo_c0 rfl (by decide) (.run rfl (stp_fieldAddr rfl fo_almagestlaw2_Ask_0 rfl)) ?_; refine MGo_c0 rfl (by decide) (.run rfl (stp_load rfl tf_S_S_api_Bind rfl rfl rfl rfl rfl)) ?_; refine MGo_c0 rfl (by decide) (.run rfl (stp_move (.inl rfl) rfl)) ?_; refine MGo_c0 rfl (by decide) (.run rfl (stp_indexAddr rfl sl_S_S_api_Bind rfl rfl (by omega) (bdlDs_get hbs))) ?_; refine MGo_c0 rfl (by decide) (.run rfl (stp_load_elp1 rfl tf_S_api_Bind rfl)) ?_
                    refine MGo_c0 rfl (by decide) (.run rfl (stp_fieldAddr rfl fo_almagestlaw2_Ask_0 rfl)) ?_; refine MGo_c0 rfl (by decide) (.run rfl (stp_load rfl tf_S_S_api_Bind rfl rfl rfl rfl rfl)) ?_; refine MGo_c0 rfl (by decide) (.run rfl (stp_move (.inl rfl) rfl)) ?_; refine MGo_c0 rfl (by decide) (.run rfl (stp_indexAddr rfl sl_S_S_api_Bind rfl rfl (by omega) (bdlDs_get hcs))) ?_; refine MGo_c0 rfl (by decide) (.run rfl (stp_load_elp1 rfl tf_S_api_Bind rfl)) ?_
                    refine MGo_c0 rfl (by decide) (.run rfl (stp_call (avs := [_, _]) true rfl en_almagestref1_Join rfl rfl (rJoin_ok bs cs hokb hokc) (fun _ => rfl) rfl)) ?_; refine MGo_c0 rfl (by decide) (.run rfl (stp_move (.inl rfl) rfl)) ?_; refine MGo_c0 rfl (by decide) (.run rfl (stp_extract rfl rfl rfl)) ?_; refine MGo_c0 rfl (by decide) (.run rfl (stp_extract rfl rfl rfl)) ?_; refine MGo_c0 rfl (by decide) (.run rfl (stp_move (.inr rfl) rfl)) ?_; refine MGo_nil ⟨rfl, rfl, ?_⟩; refine awps_stp0 rfl rfl (by decide) (stp_move (.inr rfl) rfl) ?_; refine awps_nil ?_
                    exact thenQ_cut (sub_re (SubT.cons (lk_eq rfl (by first | rfl | simp)) (SubT.cons (lk_eq rfl (by first | rfl | simp)) (SubT.cons (lk_eq rfl (by first | rfl | simp)) (SubT.cons (lk_eq rfl (by first | rfl | simp)) (SubT.cons (lk_eq rfl (by first | rfl | simp)) (SubT.cons (lk_eq rfl (by first | rfl | simp)) (SubT.cons (lk_eq rfl (by first | rfl | simp)) (SubT.cons (lk_eq rfl (by first | rfl | (rw [hE]; try rfl))) (SubT.cons (lk_eq rfl (by first | rfl | (rw [hL1]; try rfl))) (SubT.nil)))))))))) (SubO.cons (ok_eq rfl (by rfl)) (SubO.nil)) rfl rfl (noL' (noL hL) _))
                  try simp only [↓cqA, cqB] at c3
                  obtain ⟨hE, hL1⟩ := join_no hbw hcw (fun h => by rw [h.2.2.2] at c3; cases c3)
                  refine awp_skip ?_
                  exact thenQ_cut (sub_re (SubT.cons (lk_eq rfl (by first | rfl | simp)) (SubT.cons (lk_eq rfl (by first | rfl | simp)) (SubT.cons (lk_eq rfl (by first | rfl | simp)) (SubT.cons (lk_eq rfl (by first | rfl | simp)) (SubT.cons (lk_eq rfl (by first | rfl | simp)) (SubT.cons (lk_eq rfl (by first | rfl | simp)) (SubT.cons (lk_eq rfl (by first | rfl | simp)) (SubT.cons (lk_eq rfl (by first | rfl | (rw [hE]; try rfl))) (SubT.cons (lk_eq rfl (by first | rfl | (rw [hL1]; try rfl))) (SubT.nil)))))))))) (SubO.cons (ok_eq rfl (by rfl)) (SubO.nil)) rfl rfl (noL' (noL hL) _))
                try simp only [↓cqA, cqB] at g79
                obtain ⟨hE, hL1⟩ := join_no hbw hcw (fun h => by rw [h.2.2.1] at g79; cases g79)
                refine awps_gs rfl rfl rfl rfl (by decide) rfl (by decide) ?_; refine awps_gs rfl rfl rfl rfl (by decide) rfl (by decide) ?_; refine awps_gs rfl rfl rfl rfl (by decide) rfl (by decide) ?_; refine awps_gs rfl rfl rfl rfl (by decide) rfl (by decide) ?_; refine awps_gs rfl rfl rfl rfl (by decide) rfl (by decide) ?_; refine awps_gs rfl rfl rfl rfl (by decide) rfl (by decide) ?_; refine awps_stp0 rfl rfl (by decide) (stp_pick rfl rfl rfl) ?_; refine awps_nil ?_; refine thenQ_nil ?_; refine awp_condF rfl ?_; refine awp_skip ?_
                exact thenQ_cut (sub_re (SubT.cons (lk_eq rfl (by first | rfl | simp)) (SubT.cons (lk_eq rfl (by first | rfl | simp)) (SubT.cons (lk_eq rfl (by first | rfl | simp)) (SubT.cons (lk_eq rfl (by first | rfl | simp)) (SubT.cons (lk_eq rfl (by first | rfl | simp)) (SubT.cons (lk_eq rfl (by first | rfl | simp)) (SubT.cons (lk_eq rfl (by first | rfl | simp)) (SubT.cons (lk_eq rfl (by first | rfl | (rw [hE]; try rfl))) (SubT.cons (lk_eq rfl (by first | rfl | (rw [hL1]; try rfl))) (SubT.nil)))))))))) (SubO.cons (ok_eq rfl (by rfl)) (SubO.nil)) rfl rfl (noL' (noL hL) _))
              try simp only [↓cqA, cqB] at g71
              obtain ⟨hE, hL1⟩ := join_no hbw hcw (fun h => by rw [h.2.1] at g71; cases g71)
              refine awps_gs rfl rfl rfl rfl (by decide) rfl (by decide) ?_; refine awps_gs rfl rfl rfl rfl (by decide) rfl (by decide) ?_; refine awps_gs rfl rfl rfl rfl (by decide) rfl (by decide) ?_; refine awps_gs rfl rfl rfl rfl (by decide) rfl (by decide) ?_; refine awps_gs rfl rfl rfl rfl (by decide) rfl (by decide) ?_
              refine awps_gs rfl rfl rfl rfl (by decide) rfl (by decide) ?_; refine awps_stp0 rfl rfl (by decide) (stp_pick rfl rfl rfl) ?_; refine awps_stp0 rfl rfl (by decide) (stp_move (.inl rfl) rfl) ?_; refine awps_gs rfl rfl rfl rfl (by decide) rfl (by decide) ?_; refine awps_gs rfl rfl rfl rfl (by decide) rfl (by decide) ?_
              refine awps_gs rfl rfl rfl rfl (by decide) rfl (by decide) ?_; refine awps_gs rfl rfl rfl rfl (by decide) rfl (by decide) ?_; refine awps_gs rfl rfl rfl rfl (by decide) rfl (by decide) ?_; refine awps_gs rfl rfl rfl rfl (by decide) rfl (by decide) ?_; refine awps_stp0 rfl rfl (by decide) (stp_pick rfl rfl rfl) ?_; refine awps_nil ?_; refine thenQ_nil ?_; refine awp_condF rfl ?_; refine awp_skip ?_
              exact thenQ_cut (sub_re (SubT.cons (lk_eq rfl (by first | rfl | simp)) (SubT.cons (lk_eq rfl (by first | rfl | simp)) (SubT.cons (lk_eq rfl (by first | rfl | simp)) (SubT.cons (lk_eq rfl (by first | rfl | simp)) (SubT.cons (lk_eq rfl (by first | rfl | simp)) (SubT.cons (lk_eq rfl (by first | rfl | simp)) (SubT.cons (lk_eq rfl (by first | rfl | simp)) (SubT.cons (lk_eq rfl (by first | rfl | (rw [hE]; try rfl))) (SubT.cons (lk_eq rfl (by first | rfl | (rw [hL1]; try rfl))) (SubT.nil)))))))))) (SubO.cons (ok_eq rfl (by rfl)) (SubO.nil)) rfl rfl (noL' (noL hL) _))
            try simp only [↓cqA, cqB] at g63
            obtain ⟨hE, hL1⟩ := join_no hbw hcw (fun h => by rw [h.1] at g63; cases g63)
            refine awps_gs rfl rfl rfl rfl (by decide) rfl (by decide) ?_; refine awps_gs rfl rfl rfl rfl (by decide) rfl (by decide) ?_; refine awps_gs rfl rfl rfl rfl (by decide) rfl (by decide) ?_; refine awps_gs rfl rfl rfl rfl (by decide) rfl (by decide) ?_; refine awps_gs rfl rfl rfl rfl (by decide) rfl (by decide) ?_; refine awps_gs rfl rfl rfl rfl (by decide) rfl (by decide) ?_
            refine awps_stp0 rfl rfl (by decide) (stp_pick rfl rfl rfl) ?_; refine awps_stp0 rfl rfl (by decide) (stp_move (.inl rfl) rfl) ?_; refine awps_gs rfl rfl rfl rfl (by decide) rfl (by decide) ?_; refine awps_gs rfl rfl rfl rfl (by decide) rfl (by decide) ?_; refine awps_gs rfl rfl rfl rfl (by decide) rfl (by decide) ?_
            refine awps_gs rfl rfl rfl rfl (by decide) rfl (by decide) ?_; refine awps_gs rfl rfl rfl rfl (by decide) rfl (by decide) ?_; refine awps_gs rfl rfl rfl rfl (by decide) rfl (by decide) ?_; refine awps_stp0 rfl rfl (by decide) (stp_pick rfl rfl rfl) ?_; refine awps_stp0 rfl rfl (by decide) (stp_move (.inl rfl) rfl) ?_
            refine awps_gs rfl rfl rfl rfl (by decide) rfl (by decide) ?_; refine awps_gs rfl rfl rfl rfl (by decide) rfl (by decide) ?_; refine awps_gs rfl rfl rfl rfl (by decide) rfl (by decide) ?_; refine awps_gs rfl rfl rfl rfl (by decide) rfl (by decide) ?_; refine awps_gs rfl rfl rfl rfl (by decide) rfl (by decide) ?_; refine awps_gs rfl rfl rfl rfl (by decide) rfl (by decide) ?_; refine awps_stp0 rfl rfl (by decide) (stp_pick rfl rfl rfl) ?_; refine awps_nil ?_; refine thenQ_nil ?_; refine awp_condF rfl ?_; refine awp_skip ?_
            exact thenQ_cut (sub_re (SubT.cons (lk_eq rfl (by first | rfl | simp)) (SubT.cons (lk_eq rfl (by first | rfl | simp)) (SubT.cons (lk_eq rfl (by first | rfl | simp)) (SubT.cons (lk_eq rfl (by first | rfl | simp)) (SubT.cons (lk_eq rfl (by first | rfl | simp)) (SubT.cons (lk_eq rfl (by first | rfl | simp)) (SubT.cons (lk_eq rfl (by first | rfl | simp)) (SubT.cons (lk_eq rfl (by first | rfl | (rw [hE]; try rfl))) (SubT.cons (lk_eq rfl (by first | rfl | (rw [hL1]; try rfl))) (SubT.nil)))))))))) (SubO.cons (ok_eq rfl (by rfl)) (SubO.nil)) rfl rfl (noL' (noL hL) _))
          refine awp_seq ?_; refine awp_seq ?_; refine awp_region ?_; refine awps_stp0 rfl rfl (by decide) (stp_move (.inl rfl) rfl) ?_; refine awps_call (avs := [_]) true rfl rfl rfl (by decide) en_almagestlaw2_num rfl rfl (num2_ok _) rfl rfl ?_; refine awps_stp0 rfl rfl (by decide) (stp_move (.inl rfl) rfl) ?_; refine awps_stp0 rfl rfl (by decide) (stp_binI rfl rfl rfl rfl) ?_; refine awps_stp0 rfl rfl (by decide) (stp_move (.inl rfl) rfl) ?_; refine awps_split 105 rfl (fun g105 => ?_) (fun g105 => ?_)
          · try simp only [↓cqA, cqB] at g105
            refine awps_gs rfl rfl rfl rfl (by decide) rfl (by decide) ?_; refine awps_gs rfl rfl rfl rfl (by decide) rfl (by decide) ?_; refine awps_gs rfl rfl rfl rfl (by decide) rfl (by decide) ?_; refine awps_gs rfl rfl rfl rfl (by decide) rfl (by decide) ?_; refine awps_stp0 rfl rfl (by decide) (stp_pick rfl rfl rfl) ?_
            refine awps_stp0 rfl rfl (by decide) (stp_move (.inl rfl) rfl) ?_; refine awps_gs rfl rfl rfl rfl (by decide) rfl (by decide) ?_; refine awps_gs rfl rfl rfl rfl (by decide) rfl (by decide) ?_; refine awps_gs rfl rfl rfl rfl (by decide) rfl (by decide) ?_; refine awps_gs rfl rfl rfl rfl (by decide) rfl (by decide) ?_
            refine awps_gs rfl rfl rfl rfl (by decide) rfl (by decide) ?_; refine awps_gs rfl rfl rfl rfl (by decide) rfl (by decide) ?_; refine awps_gs rfl rfl rfl rfl (by decide) rfl (by decide) ?_; refine awps_gs rfl rfl rfl rfl (by decide) rfl (by decide) ?_; refine awps_stp0 rfl rfl (by decide) (stp_pick rfl rfl rfl) ?_
            refine awps_stp0 rfl rfl (by decide) (stp_move (.inl rfl) rfl) ?_; refine awps_gs rfl rfl rfl rfl (by decide) rfl (by decide) ?_; refine awps_gs rfl rfl rfl rfl (by decide) rfl (by decide) ?_; refine awps_gs rfl rfl rfl rfl (by decide) rfl (by decide) ?_; refine awps_gs rfl rfl rfl rfl (by decide) rfl (by decide) ?_
            refine awps_gs rfl rfl rfl rfl (by decide) rfl (by decide) ?_; refine awps_gs rfl rfl rfl rfl (by decide) rfl (by decide) ?_; refine awps_gs rfl rfl rfl rfl (by decide) rfl (by decide) ?_; refine awps_gs rfl rfl rfl rfl (by decide) rfl (by decide) ?_; refine awps_stp0 rfl rfl (by decide) (stp_pick rfl rfl rfl) ?_; refine awps_nil ?_; refine thenQ_nil ?_
            refine awp_condT rfl ?_; refine awp_seq ?_; refine awp_region ?_; refine awps_stp0 rfl rfl (by decide) (stp_move (.inr rfl) rfl) ?_; refine awps_nil ?_; refine thenQ_nil ?_; refine awp_ret ?_; refine thenQ_ret (inQ_ret (thenQ_ret (thenQ_ret (inQ_ret (thenQ_ret (inQ_ret (thenQ_ret (thenQ_ret (inQ_ret (thenQ_ret (?_)))))))))))
            -- leaf 0Fg22T1Tg33T2Tg105T
            refine ret0 (noL hL) (.inl rfl) (resAs_tmp rfl (resAs_nil)) ?_ ?_
            · rfl
            first
            | exact ⟨rfl, rfl⟩
            | exact absurd trivial (by assumption)
            | exact absurd rfl (by assumption)
            | exact Bool.noConfusion (show true = false by assumption)
            | trace_state
          try simp only [↓cqA, cqB] at g105
          refine awps_g0 rfl rfl rfl (by decide) rfl (by decide) (stp_move (.inl rfl) rfl) ?_; refine awps_g0 rfl rfl rfl (by decide) rfl (by decide) (stp_move (.inl rfl) rfl) ?_; refine awps_g0 rfl rfl rfl (by decide) rfl (by decide) (stp_call (avs := [_, _]) true rfl en_almagestref0_EqBinds rfl rfl (EqBindsSelf_ok 5 (joinL bs cs) (fun x hx => (hjw x hx).2) (fun x hx => (hjw x hx).1) (by omega)) (fun _ => rfl) rfl) ?_; refine awps_g0 rfl rfl rfl (by decide) rfl (by decide) (stp_not rfl rfl) ?_
          refine awps_stp0 rfl rfl (by decide) (stp_pick rfl rfl rfl) ?_; refine awps_stp0 rfl rfl (by decide) (stp_move (.inl rfl) rfl) ?_; refine awps_split 111 rfl (fun g111 => ?_) (fun g111 => ?_)
          · try simp only [↓cqA, cqB] at g111
            refine awps_gs rfl rfl rfl rfl (by decide) rfl (by decide) ?_; refine awps_gs rfl rfl rfl rfl (by decide) rfl (by decide) ?_; refine awps_gs rfl rfl rfl rfl (by decide) rfl (by decide) ?_; refine awps_gs rfl rfl rfl rfl (by decide) rfl (by decide) ?_; refine awps_gs rfl rfl rfl rfl (by decide) rfl (by decide) ?_; refine awps_gs rfl rfl rfl rfl (by decide) rfl (by decide) ?_
            refine awps_gs rfl rfl rfl rfl (by decide) rfl (by decide) ?_; refine awps_gs rfl rfl rfl rfl (by decide) rfl (by decide) ?_; refine awps_stp0 rfl rfl (by decide) (stp_pick rfl rfl rfl) ?_; refine awps_stp0 rfl rfl (by decide) (stp_move (.inl rfl) rfl) ?_; refine awps_gs rfl rfl rfl rfl (by decide) rfl (by decide) ?_
            refine awps_gs rfl rfl rfl rfl (by decide) rfl (by decide) ?_; refine awps_gs rfl rfl rfl rfl (by decide) rfl (by decide) ?_; refine awps_gs rfl rfl rfl rfl (by decide) rfl (by decide) ?_; refine awps_gs rfl rfl rfl rfl (by decide) rfl (by decide) ?_; refine awps_gs rfl rfl rfl rfl (by decide) rfl (by decide) ?_; refine awps_gs rfl rfl rfl rfl (by decide) rfl (by decide) ?_
            refine awps_gs rfl rfl rfl rfl (by decide) rfl (by decide) ?_; refine awps_stp0 rfl rfl (by decide) (stp_pick rfl rfl rfl) ?_; refine awps_nil ?_; refine thenQ_nil ?_; refine awp_condT rfl ?_; refine awp_seq ?_; refine awp_region ?_; refine awps_stp0 rfl rfl (by decide) (stp_move (.inr rfl) rfl) ?_; refine awps_nil ?_; refine thenQ_nil ?_; refine awp_ret ?_; refine thenQ_ret (inQ_ret (thenQ_ret (thenQ_ret (inQ_ret (thenQ_ret (inQ_ret (thenQ_ret (thenQ_ret (inQ_ret (thenQ_ret (?_)))))))))))
            -- leaf 0Fg22T1Tg33T2Tg105Fg111T
            refine ret0 (noL hL) (.inl rfl) (resAs_tmp rfl (resAs_nil)) ?_ ?_
            · rfl
            first
            | exact ⟨rfl, rfl⟩
            | exact absurd trivial (by assumption)
            | exact absurd rfl (by assumption)
            | exact Bool.noConfusion (show true = false by assumption)
            | trace_state
          try simp only [↓cqA, cqB] at g111
          refine awps_g0 rfl rfl rfl (by decide) rfl (by decide) (stp_move (.inl rfl) rfl) ?_; refine awps_g0 rfl rfl rfl (by decide) rfl (by decide) (stp_fieldAddr rfl fo_almagestlaw2_Ask_0 rfl) ?_; refine awps_g0 rfl rfl rfl (by decide) rfl (by decide) (stp_load rfl tf_S_S_api_Bind rfl rfl rfl rfl rfl) ?_; refine awps_g0 rfl rfl rfl (by decide) rfl (by decide) (stp_move (.inl rfl) rfl) ?_; refine awps_g0 rfl rfl rfl (by decide) rfl (by decide) (stp_indexAddr rfl sl_S_S_api_Bind rfl rfl (by omega) (bdlDs_get hbs)) ?_
          refine awps_g0 rfl rfl rfl (by decide) rfl (by decide) (stp_load_elp1 rfl tf_S_api_Bind rfl) ?_; refine awps_g0 rfl rfl rfl (by decide) rfl (by decide) (stp_call (avs := [_, _]) true rfl en_almagestref0_EqBinds rfl rfl (EqBindsSelf_ok 30 bs hb30 hbw (by omega)) (fun _ => rfl) rfl) ?_; refine awps_g0 rfl rfl rfl (by decide) rfl (by decide) (stp_not rfl rfl) ?_; refine awps_stp0 rfl rfl (by decide) (stp_pick rfl rfl rfl) ?_; refine awps_stp0 rfl rfl (by decide) (stp_move (.inl rfl) rfl) ?_; refine awps_split 121 rfl (fun g121 => ?_) (fun g121 => ?_)
          · try simp only [↓cqA, cqB] at g121
            refine awps_gs rfl rfl rfl rfl (by decide) rfl (by decide) ?_; refine awps_gs rfl rfl rfl rfl (by decide) rfl (by decide) ?_; refine awps_gs rfl rfl rfl rfl (by decide) rfl (by decide) ?_; refine awps_gs rfl rfl rfl rfl (by decide) rfl (by decide) ?_; refine awps_gs rfl rfl rfl rfl (by decide) rfl (by decide) ?_; refine awps_gs rfl rfl rfl rfl (by decide) rfl (by decide) ?_
            refine awps_gs rfl rfl rfl rfl (by decide) rfl (by decide) ?_; refine awps_gs rfl rfl rfl rfl (by decide) rfl (by decide) ?_; refine awps_stp0 rfl rfl (by decide) (stp_pick rfl rfl rfl) ?_; refine awps_nil ?_; refine thenQ_nil ?_; refine awp_condT rfl ?_; refine awp_seq ?_; refine awp_region ?_; refine awps_stp0 rfl rfl (by decide) (stp_move (.inr rfl) rfl) ?_; refine awps_nil ?_; refine thenQ_nil ?_; refine awp_ret ?_; refine thenQ_ret (inQ_ret (thenQ_ret (thenQ_ret (inQ_ret (thenQ_ret (inQ_ret (thenQ_ret (thenQ_ret (inQ_ret (thenQ_ret (?_)))))))))))
            -- leaf 0Fg22T1Tg33T2Tg105Fg111Fg121T
            refine ret0 (noL hL) (.inl rfl) (resAs_tmp rfl (resAs_nil)) ?_ ?_
            · rfl
            first
            | exact ⟨rfl, rfl⟩
            | exact absurd trivial (by assumption)
            | exact absurd rfl (by assumption)
            | exact Bool.noConfusion (show true = false by assumption)
            | trace_state
          try simp only [↓cqA, cqB] at g121
          refine awps_g0 rfl rfl rfl (by decide) rfl (by decide) (stp_move (.inl rfl) rfl) ?_; refine awps_g0 rfl rfl rfl (by decide) rfl (by decide) (stp_fieldAddr rfl fo_almagestlaw2_Ask_0 rfl) ?_; refine awps_g0 rfl rfl rfl (by decide) rfl (by decide) (stp_load rfl tf_S_S_api_Bind rfl rfl rfl rfl rfl) ?_; refine awps_g0 rfl rfl rfl (by decide) rfl (by decide) (stp_move (.inl rfl) rfl) ?_; refine awps_g0 rfl rfl rfl (by decide) rfl (by decide) (stp_indexAddr rfl sl_S_S_api_Bind rfl rfl (by omega) (bdlDs_get hcs)) ?_
          refine awps_g0 rfl rfl rfl (by decide) rfl (by decide) (stp_load_elp1 rfl tf_S_api_Bind rfl) ?_; refine awps_g0 rfl rfl rfl (by decide) rfl (by decide) (stp_call (avs := [_, _]) true rfl en_almagestref0_EqBinds rfl rfl (EqBindsSelf_ok 30 cs hc30 hcw (by omega)) (fun _ => rfl) rfl) ?_; refine awps_g0 rfl rfl rfl (by decide) rfl (by decide) (stp_not rfl rfl) ?_; refine awps_stp0 rfl rfl (by decide) (stp_pick rfl rfl rfl) ?_; refine awps_nil ?_; refine thenQ_nil ?_; refine awp_cond rfl (fun c4 => ?_) (fun c4 => ?_)
          · try simp only [↓cqA, cqB] at c4
            refine awp_seq ?_; refine awp_region ?_; refine awps_stp0 rfl rfl (by decide) (stp_move (.inr rfl) rfl) ?_; refine awps_nil ?_; refine thenQ_nil ?_; refine awp_ret ?_; refine thenQ_ret (inQ_ret (thenQ_ret (thenQ_ret (inQ_ret (thenQ_ret (inQ_ret (thenQ_ret (thenQ_ret (inQ_ret (thenQ_ret (?_)))))))))))
            -- leaf 0Fg22T1Tg33T2Tg105Fg111Fg121F4T
            refine ret0 (noL hL) (.inl rfl) (resAs_tmp rfl (resAs_nil)) ?_ ?_
            · rfl
            first
            | exact ⟨rfl, rfl⟩
            | exact absurd trivial (by assumption)
            | exact absurd rfl (by assumption)
            | exact Bool.noConfusion (show true = false by assumption)
            | trace_state
          try simp only [↓cqA, cqB] at c4
          refine awp_skip ?_; refine thenQ_nil ?_; refine awp_seq ?_; refine awp_region ?_; refine awps_stp0 rfl rfl (by decide) (stp_move (.inl rfl) rfl) ?_; refine awps_sub (sub_re (T1 := [(131, .dat true 5 (bdDs (joinL bs cs))), (1, .ptr 1 0), (3, iv (k : Int)), (4, iv (s : Int)), (5, bdA bs), (6, bdA cs)]) (O1 := [(1, .box (lift false (a2D ⟨l, T, S⟩)))]) (SubT.cons rfl (SubT.cons rfl (SubT.cons rfl (SubT.cons rfl (SubT.cons rfl (SubT.cons rfl SubT.nil)))))) (SubO.cons rfl SubO.nil) rfl rfl (noL' (noL hL) _)) ?_
          refine awps_spoil rfl rfl rfl (by decide) en_almagestlaw0_Binds rfl rfl rfl rfl (spoilBinds_ok _ (fun b hb => dlb_of 5 _ (hjw b hb).2 (hjw b hb).1.2) (by omega)) (fun b hb => absurd hb (hQ b)) (fun T' O' hT hO => ?_)
          simp only [ShT, ShV] at hT
          obtain ⟨_, _, rfl, _, _, _, rfl, rfl, _, _, rfl, rfl, _, _, rfl, rfl, _, _, rfl, ⟨e5, rfl, h5⟩, _, _, rfl, ⟨e6, rfl, h6⟩, rfl⟩ := hT
          obtain rfl : e5 = _ := by simpa using h5
          obtain rfl : e6 = _ := by simpa using h6
          have hO2 := shO_box hO
          subst hO2
          refine awps_nil ?_; refine thenQ_nil ?_; refine awp_seq ?_; refine awp_region ?_; refine awps_stp0 rfl rfl (by decide) (stp_move (.inl rfl) rfl) ?_; refine awps_stp0 rfl rfl (by decide) (stp_fieldAddr rfl fo_almagestlaw2_Ask_0 rfl) ?_; refine awps_stp0 rfl rfl (by decide) (stp_load rfl tf_S_S_api_Bind rfl rfl rfl rfl rfl) ?_; refine awps_stp0 rfl rfl (by decide) (stp_move (.inl rfl) rfl) ?_; refine awps_stp0 rfl rfl (by decide) (stp_indexAddr rfl sl_S_S_api_Bind rfl rfl (by omega) (bdlDs_get hbs)) ?_
          refine awps_stp0 rfl rfl (by decide) (stp_load_elp1 rfl tf_S_api_Bind rfl) ?_; refine awps_call (avs := [_, _]) true rfl rfl rfl (by decide) en_almagestref0_EqBinds rfl rfl (EqBindsSelf_ok 30 bs hb30 hbw (by omega)) rfl rfl ?_; refine awps_stp0 rfl rfl (by decide) (stp_not rfl rfl) ?_; refine awps_stp0 rfl rfl (by decide) (stp_move (.inl rfl) rfl) ?_; refine awps_split 141 rfl (fun g141 => ?_) (fun g141 => ?_)
          · try simp only [↓cqA, cqB] at g141
            refine awps_gs rfl rfl rfl rfl (by decide) rfl (by decide) ?_; refine awps_gs rfl rfl rfl rfl (by decide) rfl (by decide) ?_; refine awps_gs rfl rfl rfl rfl (by decide) rfl (by decide) ?_; refine awps_gs rfl rfl rfl rfl (by decide) rfl (by decide) ?_; refine awps_gs rfl rfl rfl rfl (by decide) rfl (by decide) ?_; refine awps_gs rfl rfl rfl rfl (by decide) rfl (by decide) ?_
            refine awps_gs rfl rfl rfl rfl (by decide) rfl (by decide) ?_; refine awps_gs rfl rfl rfl rfl (by decide) rfl (by decide) ?_; refine awps_stp0 rfl rfl (by decide) (stp_pick rfl rfl rfl) ?_; refine awps_nil ?_; refine thenQ_nil ?_; refine awp_condT rfl ?_; refine awp_seq ?_; refine awp_region ?_; refine awps_stp0 rfl rfl (by decide) (stp_move (.inr rfl) rfl) ?_; refine awps_nil ?_; refine thenQ_nil ?_; refine awp_ret ?_; refine inQ_ret (thenQ_ret (thenQ_ret (inQ_ret (thenQ_ret (inQ_ret (thenQ_ret (thenQ_ret (inQ_ret (thenQ_ret (?_))))))))))
            -- leaf 0Fg22T1Tg33T2Tg105Fg111Fg121F4Fg141T
            refine ret0 (noL hL) (.inl rfl) (resAs_tmp rfl (resAs_nil)) ?_ ?_
            · rfl
            first
            | exact ⟨rfl, rfl⟩
            | exact absurd trivial (by assumption)
            | exact absurd rfl (by assumption)
            | exact Bool.noConfusion (show true = false by assumption)
            | trace_state
          try simp only [↓cqA, cqB] at g141
          refine awps_g0 rfl rfl rfl (by decide) rfl (by decide) (stp_move (.inl rfl) rfl) ?_; refine awps_g0 rfl rfl rfl (by decide) rfl (by decide) (stp_fieldAddr rfl fo_almagestlaw2_Ask_0 rfl) ?_; refine awps_g0 rfl rfl rfl (by decide) rfl (by decide) (stp_load rfl tf_S_S_api_Bind rfl rfl rfl rfl rfl) ?_; refine awps_g0 rfl rfl rfl (by decide) rfl (by decide) (stp_move (.inl rfl) rfl) ?_; refine awps_g0 rfl rfl rfl (by decide) rfl (by decide) (stp_indexAddr rfl sl_S_S_api_Bind rfl rfl (by omega) (bdlDs_get hcs)) ?_
          refine awps_g0 rfl rfl rfl (by decide) rfl (by decide) (stp_load_elp1 rfl tf_S_api_Bind rfl) ?_; refine awps_g0 rfl rfl rfl (by decide) rfl (by decide) (stp_call (avs := [_, _]) true rfl en_almagestref0_EqBinds rfl rfl (EqBindsSelf_ok 30 cs hc30 hcw (by omega)) (fun _ => rfl) rfl) ?_; refine awps_g0 rfl rfl rfl (by decide) rfl (by decide) (stp_not rfl rfl) ?_; refine awps_stp0 rfl rfl (by decide) (stp_pick rfl rfl rfl) ?_; refine awps_nil ?_; refine thenQ_nil ?_; refine awp_cond rfl (fun c5 => ?_) (fun c5 => ?_)
          · try simp only [↓cqA, cqB] at c5
            refine awp_seq ?_; refine awp_region ?_; refine awps_stp0 rfl rfl (by decide) (stp_move (.inr rfl) rfl) ?_; refine awps_nil ?_; refine thenQ_nil ?_; refine awp_ret ?_; refine inQ_ret (thenQ_ret (thenQ_ret (inQ_ret (thenQ_ret (inQ_ret (thenQ_ret (thenQ_ret (inQ_ret (thenQ_ret (?_))))))))))
            -- leaf 0Fg22T1Tg33T2Tg105Fg111Fg121F4Fg141F5T
            refine ret0 (noL hL) (.inl rfl) (resAs_tmp rfl (resAs_nil)) ?_ ?_
            · rfl
            first
            | exact ⟨rfl, rfl⟩
            | exact absurd trivial (by assumption)
            | exact absurd rfl (by assumption)
            | exact Bool.noConfusion (show true = false by assumption)
            | trace_state
          try simp only [↓cqA, cqB] at c5
          refine awp_skip ?_; refine inQ_nil ?_; refine thenQ_nil ?_; refine awp_region ?_; refine awps_stp0 rfl rfl (by decide) (stp_move (.inl rfl) rfl) ?_; refine awps_stp0 rfl rfl (by decide) (stp_add rfl rfl rfl (by omega)) ?_; refine awps_stp0 rfl rfl (by decide) (stp_move (.inr rfl) rfl) ?_; refine awps_nil ?_; refine thenQ_nil ?_; refine ⟨?_, ?_, ?_⟩
          · skip
            omega
          · skip
            trivial
          exact sub_re (SubT.cons (lk_eq rfl (by first | rfl | simp)) (SubT.cons (lk_eq rfl (by first | rfl | simp)) (SubT.cons (lk_eq rfl (by first | rfl | simp)) (SubT.nil)))) (SubO.cons (ok_eq rfl (by rfl)) (SubO.nil)) rfl rfl (noL' (noL hL) _)
        try simp only [↓cqA, cqB] at c2
        refine awp_exit ?_; refine thenQ_exit (thenQ_exit (inQ_hit ?_)); refine thenQ_nil ?_; refine awp_seq ?_; refine awp_drawG 12 mixed rfl rfl rfl rfl ?_; refine MGo_c0 rfl (by decide) (.run rfl (stp_fieldAddr rfl fo_almagestlaw2_Ask_0 rfl)) ?_; refine MGo_c0 rfl (by decide) (.run rfl (stp_load rfl tf_S_S_api_Bind rfl rfl rfl rfl rfl)) ?_; refine MGo_c0 rfl (by decide) (.run rfl (stp_move (.inl rfl) rfl)) ?_; refine MGo_c0 rfl (by decide) (.run rfl (stp_indexAddr rfl sl_S_S_api_Bind rfl rfl (by omega) (bdlDs_get hbs))) ?_
        refine MGo_c0 rfl (by decide) (.run rfl (stp_load_elp1 rfl tf_S_api_Bind rfl)) ?_; refine MGo_c0 rfl (by decide) (.run rfl (stp_fieldAddr rfl fo_almagestlaw2_Ask_2 rfl)) ?_; refine MGo_c0 rfl (by decide) (.run rfl (stp_load rfl tf_S_string rfl rfl rfl rfl rfl)) ?_
        refine MGo_c0 rfl (by decide) (.run rfl (stp_call (avs := [_, _]) false rfl en_bind_Only rfl rfl (Only_okP bs hbw S (by omega)) (fun _ => rfl) rfl)) ?_; refine MGo_c0 rfl (by decide) (.run rfl (stp_move (.inl rfl) rfl)) ?_; refine MGo_c0 rfl (by decide) (.run rfl (stp_extract rfl rfl rfl)) ?_; refine MGo_c0 rfl (by decide) (.run rfl (stp_extract rfl rfl rfl)) ?_
        refine MGo_c0 rfl (by decide) (.run rfl (stp_move (.inr rfl) rfl)) ?_; refine MGo_nil ⟨rfl, rfl, ?_⟩; refine awps_stp0 rfl rfl (by decide) (stp_move (.inr rfl) rfl) ?_; refine awps_nil ?_; refine thenQ_nil ?_; refine awp_seq ?_; refine awp_region ?_; refine awps_stp0 rfl rfl (by decide) (stp_move (.inr rfl) rfl) ?_; refine awps_nil ?_; refine thenQ_nil ?_; refine awp_seq ?_
        refine awp_region ?_; refine awps_stp0 rfl rfl (by decide) (stp_move (.inr rfl) rfl) ?_; refine awps_nil ?_; refine thenQ_nil ?_; refine awp_cut ⟨[(1, .ptr 1 0), (3, iv (k : Int)), (11, bdA (onlyL bs S)), (12, iv (onlyE bs)), (13, iv (onlyE bs)), (14, .dat true 5 (bdDs (onlyL bs S)))], [(1, .box (lift false (a2D ⟨l, T, S⟩)))]⟩ ?_ ?_
        · skip
          refine awp_seq ?_; refine awp_sub (sub_nil_dat (t := 14) 5 true rfl) ?_; refine awp_region ?_; refine awps_stp0 rfl rfl (by decide) (stp_fieldAddr rfl fo_almagestlaw2_Ask_0 rfl) ?_; refine awps_stp0 rfl rfl (by decide) (stp_load rfl tf_S_S_api_Bind rfl rfl rfl rfl rfl) ?_; refine awps_stp0 rfl rfl (by decide) (stp_move (.inl rfl) rfl) ?_; refine awps_stp0 rfl rfl (by decide) (stp_indexAddr rfl sl_S_S_api_Bind rfl rfl (by omega) (bdlDs_get hbs)) ?_; refine awps_stp0 rfl rfl (by decide) (stp_load_elp1 rfl tf_S_api_Bind rfl) ?_
          refine awps_call (avs := [_]) true rfl rfl rfl (by decide) en_almagestref1_Binds rfl rfl (rBinds_ok bs (by omega) hbw) rfl rfl ?_; refine awps_nil ?_; refine thenQ_nil ?_; refine awp_cond rfl (fun c6 => ?_) (fun c6 => ?_)
          · try simp only [↓cqA, cqB] at c6
            have hE : onlyE bs = 0 := by rw [onlyE, if_pos c6]
            have hL1 : onlyL bs S = bs.filter (inN S) := by rw [onlyL, if_pos c6]
            refine awp_drawG 7 mixed rfl rfl rfl rfl ?_; refine MGo_c0 rfl (by decide) (.run rfl (stp_fieldAddr rfl fo_almagestlaw2_Ask_0 rfl)) ?_; refine MGo_c0 rfl (by decide) (.run rfl (stp_load rfl tf_S_S_api_Bind rfl rfl rfl rfl rfl)) ?_; refine MGo_c0 rfl (by decide) (.run rfl (stp_move (.inl rfl) rfl)) ?_; refine MGo_c0 rfl (by decide) (.run rfl (stp_indexAddr rfl sl_S_S_api_Bind rfl rfl (by omega) (bdlDs_get hbs))) ?_; refine MGo_c0 rfl (by decide) (.run rfl (stp_load_elp1 rfl tf_S_api_Bind rfl)) ?_
            refine MGo_c0 rfl (by decide) (.run rfl (stp_fieldAddr rfl fo_almagestlaw2_Ask_2 rfl)) ?_; refine MGo_c0 rfl (by decide) (.run rfl (stp_load rfl tf_S_string rfl rfl rfl rfl rfl)) ?_; refine MGo_nil ⟨rfl, rfl, ?_⟩; refine awps_call (avs := [_, _]) true rfl rfl rfl (by decide) en_almagestref1_Only rfl rfl (rOnly_ok 30 bs (by omega) hb30 hbw S (by omega)) rfl rfl ?_; refine awps_stp0 rfl rfl (by decide) (stp_move (.inr rfl) rfl) ?_; refine awps_stp0 rfl rfl (by decide) (stp_move (.inr rfl) rfl) ?_; refine awps_nil ?_
            exact thenQ_cut (sub_re (SubT.cons (lk_eq rfl (by first | rfl | simp)) (SubT.cons (lk_eq rfl (by first | rfl | simp)) (SubT.cons (lk_eq rfl (by first | rfl | simp)) (SubT.cons (lk_eq rfl (by first | rfl | simp)) (SubT.cons (lk_eq rfl (by first | rfl | (rw [hE]; try rfl))) (SubT.cons (lk_eq rfl (by first | rfl | (rw [hL1]; try rfl))) (SubT.nil))))))) (SubO.cons (ok_eq rfl (by rfl)) (SubO.nil)) rfl rfl (noL' (noL hL) _))
          try simp only [↓cqA, cqB] at c6
          have hE : onlyE bs = 1 := by rw [onlyE, if_neg (by simp [c6])]
          have hL1 : onlyL bs S = [] := by rw [onlyL, if_neg (by simp [c6])]
          refine awp_skip ?_
          exact thenQ_cut (sub_re (SubT.cons (lk_eq rfl (by first | rfl | simp)) (SubT.cons (lk_eq rfl (by first | rfl | simp)) (SubT.cons (lk_eq rfl (by first | rfl | simp)) (SubT.cons (lk_eq rfl (by first | rfl | simp)) (SubT.cons (lk_eq rfl (by first | rfl | (rw [hE]; try rfl))) (SubT.cons (lk_eq rfl (by first | rfl | (rw [hL1]; try rfl))) (SubT.nil))))))) (SubO.cons (ok_eq rfl (by rfl)) (SubO.nil)) rfl rfl (noL' (noL hL) _))
        refine awp_seq ?_; refine awp_region ?_; refine awps_stp0 rfl rfl (by decide) (stp_move (.inl rfl) rfl) ?_; refine awps_call (avs := [_]) true rfl rfl rfl (by decide) en_almagestlaw2_num rfl rfl (num2_ok _) rfl rfl ?_; refine awps_stp0 rfl rfl (by decide) (stp_move (.inl rfl) rfl) ?_; refine awps_stp0 rfl rfl (by decide) (stp_binI rfl rfl rfl rfl) ?_; refine awps_stp0 rfl rfl (by decide) (stp_move (.inl rfl) rfl) ?_; refine awps_split 180 rfl (fun g180 => ?_) (fun g180 => ?_)
        · try simp only [↓cqA, cqB] at g180
          refine awps_gs rfl rfl rfl rfl (by decide) rfl (by decide) ?_; refine awps_gs rfl rfl rfl rfl (by decide) rfl (by decide) ?_; refine awps_gs rfl rfl rfl rfl (by decide) rfl (by decide) ?_; refine awps_gs rfl rfl rfl rfl (by decide) rfl (by decide) ?_; refine awps_stp0 rfl rfl (by decide) (stp_pick rfl rfl rfl) ?_; refine awps_nil ?_; refine thenQ_nil ?_; refine awp_condT rfl ?_
          refine awp_seq ?_; refine awp_region ?_; refine awps_stp0 rfl rfl (by decide) (stp_move (.inr rfl) rfl) ?_; refine awps_nil ?_; refine thenQ_nil ?_; refine awp_ret ?_; refine inQ_ret (thenQ_ret (thenQ_ret (inQ_ret (thenQ_ret (?_)))))
          -- leaf 0Fg22T1Tg33T2Fg180T
          refine ret0 (noL hL) (.inl rfl) (resAs_tmp rfl (resAs_nil)) ?_ ?_
          · rfl
          first
          | exact ⟨rfl, rfl⟩
          | exact absurd trivial (by assumption)
          | exact absurd rfl (by assumption)
          | exact Bool.noConfusion (show true = false by assumption)
          | trace_state
        try simp only [↓cqA, cqB] at g180
        refine awps_g0 rfl rfl rfl (by decide) rfl (by decide) (stp_move (.inl rfl) rfl) ?_; refine awps_g0 rfl rfl rfl (by decide) rfl (by decide) (stp_move (.inl rfl) rfl) ?_; refine awps_g0 rfl rfl rfl (by decide) rfl (by decide) (stp_call (avs := [_, _]) true rfl en_almagestref0_EqBinds rfl rfl (EqBindsSelf_ok 30 (onlyL bs S) hod how (by omega)) (fun _ => rfl) rfl) ?_
        refine awps_g0 rfl rfl rfl (by decide) rfl (by decide) (stp_not rfl rfl) ?_; refine awps_stp0 rfl rfl (by decide) (stp_pick rfl rfl rfl) ?_; refine awps_nil ?_; refine thenQ_nil ?_; refine awp_cond rfl (fun c7 => ?_) (fun c7 => ?_)
        · try simp only [↓cqA, cqB] at c7
          refine awp_seq ?_; refine awp_region ?_; refine awps_stp0 rfl rfl (by decide) (stp_move (.inr rfl) rfl) ?_; refine awps_nil ?_; refine thenQ_nil ?_; refine awp_ret ?_; refine inQ_ret (thenQ_ret (thenQ_ret (inQ_ret (thenQ_ret (?_)))))
          -- leaf 0Fg22T1Tg33T2Fg180F7T
          refine ret0 (noL hL) (.inl rfl) (resAs_tmp rfl (resAs_nil)) ?_ ?_
          · rfl
          first
          | exact ⟨rfl, rfl⟩
          | exact absurd trivial (by assumption)
          | exact absurd rfl (by assumption)
          | exact Bool.noConfusion (show true = false by assumption)
          | trace_state
        try simp only [↓cqA, cqB] at c7
        refine awp_skip ?_; refine inQ_nil ?_; refine thenQ_nil ?_; refine awp_region ?_; refine awps_stp0 rfl rfl (by decide) (stp_move (.inl rfl) rfl) ?_; refine awps_stp0 rfl rfl (by decide) (stp_add rfl rfl rfl (by omega)) ?_; refine awps_stp0 rfl rfl (by decide) (stp_move (.inr rfl) rfl) ?_; refine awps_nil ?_; refine thenQ_nil ?_; refine ⟨?_, ?_, ?_⟩
        · skip
          omega
        · skip
          trivial
        exact sub_re (SubT.cons (lk_eq rfl (by first | rfl | simp)) (SubT.cons (lk_eq rfl (by first | rfl | simp)) (SubT.nil))) (SubO.cons (ok_eq rfl (by rfl)) (SubO.nil)) rfl rfl (noL' (noL hL) _)
      try simp only [↓cqA, cqB] at g33
      refine awps_gs rfl rfl rfl rfl (by decide) rfl (by decide) ?_; refine awps_gs rfl rfl rfl rfl (by decide) rfl (by decide) ?_; refine awps_stp0 rfl rfl (by decide) (stp_pick rfl rfl rfl) ?_; refine awps_nil ?_; refine thenQ_nil ?_; refine awp_condF rfl ?_; refine awp_exit ?_; refine thenQ_exit (thenQ_exit (inQ_hit ?_)); refine thenQ_nil ?_; refine awp_seq ?_; refine awp_drawG 12 mixed rfl rfl rfl rfl ?_; refine MGo_c0 rfl (by decide) (.run rfl (stp_fieldAddr rfl fo_almagestlaw2_Ask_0 rfl)) ?_
      refine MGo_c0 rfl (by decide) (.run rfl (stp_load rfl tf_S_S_api_Bind rfl rfl rfl rfl rfl)) ?_; refine MGo_c0 rfl (by decide) (.run rfl (stp_move (.inl rfl) rfl)) ?_; refine MGo_c0 rfl (by decide) (.run rfl (stp_indexAddr rfl sl_S_S_api_Bind rfl rfl (by omega) (bdlDs_get hbs))) ?_; refine MGo_c0 rfl (by decide) (.run rfl (stp_load_elp1 rfl tf_S_api_Bind rfl)) ?_; refine MGo_c0 rfl (by decide) (.run rfl (stp_fieldAddr rfl fo_almagestlaw2_Ask_2 rfl)) ?_; refine MGo_c0 rfl (by decide) (.run rfl (stp_load rfl tf_S_string rfl rfl rfl rfl rfl)) ?_
      refine MGo_c0 rfl (by decide) (.run rfl (stp_call (avs := [_, _]) false rfl en_bind_Only rfl rfl (Only_okP bs hbw S (by omega)) (fun _ => rfl) rfl)) ?_; refine MGo_c0 rfl (by decide) (.run rfl (stp_move (.inl rfl) rfl)) ?_; refine MGo_c0 rfl (by decide) (.run rfl (stp_extract rfl rfl rfl)) ?_; refine MGo_c0 rfl (by decide) (.run rfl (stp_extract rfl rfl rfl)) ?_
      refine MGo_c0 rfl (by decide) (.run rfl (stp_move (.inr rfl) rfl)) ?_; refine MGo_nil ⟨rfl, rfl, ?_⟩; refine awps_stp0 rfl rfl (by decide) (stp_move (.inr rfl) rfl) ?_; refine awps_nil ?_; refine thenQ_nil ?_; refine awp_seq ?_; refine awp_region ?_; refine awps_stp0 rfl rfl (by decide) (stp_move (.inr rfl) rfl) ?_; refine awps_nil ?_; refine thenQ_nil ?_; refine awp_seq ?_
      refine awp_region ?_; refine awps_stp0 rfl rfl (by decide) (stp_move (.inr rfl) rfl) ?_; refine awps_nil ?_; refine thenQ_nil ?_; refine awp_cut ⟨[(1, .ptr 1 0), (3, iv (k : Int)), (11, bdA (onlyL bs S)), (12, iv (onlyE bs)), (13, iv (onlyE bs)), (14, .dat true 5 (bdDs (onlyL bs S)))], [(1, .box (lift false (a2D ⟨l, T, S⟩)))]⟩ ?_ ?_
      · skip
        refine awp_seq ?_; refine awp_sub (sub_nil_dat (t := 14) 5 true rfl) ?_; refine awp_region ?_; refine awps_stp0 rfl rfl (by decide) (stp_fieldAddr rfl fo_almagestlaw2_Ask_0 rfl) ?_; refine awps_stp0 rfl rfl (by decide) (stp_load rfl tf_S_S_api_Bind rfl rfl rfl rfl rfl) ?_; refine awps_stp0 rfl rfl (by decide) (stp_move (.inl rfl) rfl) ?_; refine awps_stp0 rfl rfl (by decide) (stp_indexAddr rfl sl_S_S_api_Bind rfl rfl (by omega) (bdlDs_get hbs)) ?_; refine awps_stp0 rfl rfl (by decide) (stp_load_elp1 rfl tf_S_api_Bind rfl) ?_
        refine awps_call (avs := [_]) true rfl rfl rfl (by decide) en_almagestref1_Binds rfl rfl (rBinds_ok bs (by omega) hbw) rfl rfl ?_; refine awps_nil ?_; refine thenQ_nil ?_; refine awp_cond rfl (fun c6 => ?_) (fun c6 => ?_)
        · try simp only [↓cqA, cqB] at c6
          have hE : onlyE bs = 0 := by rw [onlyE, if_pos c6]
          have hL1 : onlyL bs S = bs.filter (inN S) := by rw [onlyL, if_pos c6]
          refine awp_drawG 7 mixed rfl rfl rfl rfl ?_; refine MGo_c0 rfl (by decide) (.run rfl (stp_fieldAddr rfl fo_almagestlaw2_Ask_0 rfl)) ?_; refine MGo_c0 rfl (by decide) (.run rfl (stp_load rfl tf_S_S_api_Bind rfl rfl rfl rfl rfl)) ?_; refine MGo_c0 rfl (by decide) (.run rfl (stp_move (.inl rfl) rfl)) ?_; refine MGo_c0 rfl (by decide) (.run rfl (stp_indexAddr rfl sl_S_S_api_Bind rfl rfl (by omega) (bdlDs_get hbs))) ?_; refine MGo_c0 rfl (by decide) (.run rfl (stp_load_elp1 rfl tf_S_api_Bind rfl)) ?_
          refine MGo_c0 rfl (by decide) (.run rfl (stp_fieldAddr rfl fo_almagestlaw2_Ask_2 rfl)) ?_; refine MGo_c0 rfl (by decide) (.run rfl (stp_load rfl tf_S_string rfl rfl rfl rfl rfl)) ?_; refine MGo_nil ⟨rfl, rfl, ?_⟩; refine awps_call (avs := [_, _]) true rfl rfl rfl (by decide) en_almagestref1_Only rfl rfl (rOnly_ok 30 bs (by omega) hb30 hbw S (by omega)) rfl rfl ?_; refine awps_stp0 rfl rfl (by decide) (stp_move (.inr rfl) rfl) ?_; refine awps_stp0 rfl rfl (by decide) (stp_move (.inr rfl) rfl) ?_; refine awps_nil ?_
          exact thenQ_cut (sub_re (SubT.cons (lk_eq rfl (by first | rfl | simp)) (SubT.cons (lk_eq rfl (by first | rfl | simp)) (SubT.cons (lk_eq rfl (by first | rfl | simp)) (SubT.cons (lk_eq rfl (by first | rfl | simp)) (SubT.cons (lk_eq rfl (by first | rfl | (rw [hE]; try rfl))) (SubT.cons (lk_eq rfl (by first | rfl | (rw [hL1]; try rfl))) (SubT.nil))))))) (SubO.cons (ok_eq rfl (by rfl)) (SubO.nil)) rfl rfl (noL' (noL hL) _))
        try simp only [↓cqA, cqB] at c6
        have hE : onlyE bs = 1 := by rw [onlyE, if_neg (by simp [c6])]
        have hL1 : onlyL bs S = [] := by rw [onlyL, if_neg (by simp [c6])]
        refine awp_skip ?_
        exact thenQ_cut (sub_re (SubT.cons (lk_eq rfl (by first | rfl | simp)) (SubT.cons (lk_eq rfl (by first | rfl | simp)) (SubT.cons (lk_eq rfl (by first | rfl | simp)) (SubT.cons (lk_eq rfl (by first | rfl | simp)) (SubT.cons (lk_eq rfl (by first | rfl | (rw [hE]; try rfl))) (SubT.cons (lk_eq rfl (by first | rfl | (rw [hL1]; try rfl))) (SubT.nil))))))) (SubO.cons (ok_eq rfl (by rfl)) (SubO.nil)) rfl rfl (noL' (noL hL) _))
      refine awp_seq ?_; refine awp_region ?_; refine awps_stp0 rfl rfl (by decide) (stp_move (.inl rfl) rfl) ?_; refine awps_call (avs := [_]) true rfl rfl rfl (by decide) en_almagestlaw2_num rfl rfl (num2_ok _) rfl rfl ?_; refine awps_stp0 rfl rfl (by decide) (stp_move (.inl rfl) rfl) ?_; refine awps_stp0 rfl rfl (by decide) (stp_binI rfl rfl rfl rfl) ?_; refine awps_stp0 rfl rfl (by decide) (stp_move (.inl rfl) rfl) ?_; refine awps_split 180 rfl (fun g180 => ?_) (fun g180 => ?_)
      · try simp only [↓cqA, cqB] at g180
        refine awps_gs rfl rfl rfl rfl (by decide) rfl (by decide) ?_; refine awps_gs rfl rfl rfl rfl (by decide) rfl (by decide) ?_; refine awps_gs rfl rfl rfl rfl (by decide) rfl (by decide) ?_; refine awps_gs rfl rfl rfl rfl (by decide) rfl (by decide) ?_; refine awps_stp0 rfl rfl (by decide) (stp_pick rfl rfl rfl) ?_; refine awps_nil ?_; refine thenQ_nil ?_; refine awp_condT rfl ?_
        refine awp_seq ?_; refine awp_region ?_; refine awps_stp0 rfl rfl (by decide) (stp_move (.inr rfl) rfl) ?_; refine awps_nil ?_; refine thenQ_nil ?_; refine awp_ret ?_; refine inQ_ret (thenQ_ret (thenQ_ret (inQ_ret (thenQ_ret (?_)))))
        -- leaf 0Fg22T1Tg33Fg180T
        refine ret0 (noL hL) (.inl rfl) (resAs_tmp rfl (resAs_nil)) ?_ ?_
        · rfl
        first
        | exact ⟨rfl, rfl⟩
        | exact absurd trivial (by assumption)
        | exact absurd rfl (by assumption)
        | exact Bool.noConfusion (show true = false by assumption)
        | trace_state
      try simp only [↓cqA, cqB] at g180
      refine awps_g0 rfl rfl rfl (by decide) rfl (by decide) (stp_move (.inl rfl) rfl) ?_; refine awps_g0 rfl rfl rfl (by decide) rfl (by decide) (stp_move (.inl rfl) rfl) ?_; refine awps_g0 rfl rfl rfl (by decide) rfl (by decide) (stp_call (avs := [_, _]) true rfl en_almagestref0_EqBinds rfl rfl (EqBindsSelf_ok 30 (onlyL bs S) hod how (by omega)) (fun _ => rfl) rfl) ?_
      refine awps_g0 rfl rfl rfl (by decide) rfl (by decide) (stp_not rfl rfl) ?_; refine awps_stp0 rfl rfl (by decide) (stp_pick rfl rfl rfl) ?_; refine awps_nil ?_; refine thenQ_nil ?_; refine awp_cond rfl (fun c7 => ?_) (fun c7 => ?_)
      · try simp only [↓cqA, cqB] at c7
        refine awp_seq ?_; refine awp_region ?_; refine awps_stp0 rfl rfl (by decide) (stp_move (.inr rfl) rfl) ?_; refine awps_nil ?_; refine thenQ_nil ?_; refine awp_ret ?_; refine inQ_ret (thenQ_ret (thenQ_ret (inQ_ret (thenQ_ret (?_)))))
        -- leaf 0Fg22T1Tg33Fg180F7T
        refine ret0 (noL hL) (.inl rfl) (resAs_tmp rfl (resAs_nil)) ?_ ?_
        · rfl
        first
        | exact ⟨rfl, rfl⟩
        | exact absurd trivial (by assumption)
        | exact absurd rfl (by assumption)
        | exact Bool.noConfusion (show true = false by assumption)
        | trace_state
      try simp only [↓cqA, cqB] at c7
      refine awp_skip ?_; refine inQ_nil ?_; refine thenQ_nil ?_; refine awp_region ?_; refine awps_stp0 rfl rfl (by decide) (stp_move (.inl rfl) rfl) ?_; refine awps_stp0 rfl rfl (by decide) (stp_add rfl rfl rfl (by omega)) ?_; refine awps_stp0 rfl rfl (by decide) (stp_move (.inr rfl) rfl) ?_; refine awps_nil ?_; refine thenQ_nil ?_; refine ⟨?_, ?_, ?_⟩
      · skip
        omega
      · skip
        trivial
      exact sub_re (SubT.cons (lk_eq rfl (by first | rfl | simp)) (SubT.cons (lk_eq rfl (by first | rfl | simp)) (SubT.nil))) (SubO.cons (ok_eq rfl (by rfl)) (SubO.nil)) rfl rfl (noL' (noL hL) _)
    try simp only [↓cqA, cqB] at c1
    refine awp_exit ?_; refine thenQ_exit (thenQ_exit (inQ_hit ?_)); refine thenQ_nil ?_; refine awp_seq ?_; refine awp_region ?_; refine awps_call (avs := []) true rfl rfl rfl (by decide) en_almagestlaw2_wakes rfl rfl (wakes2_ok) rfl rfl ?_; refine awps_stp0 rfl rfl (by decide) (stp_move (.inr rfl) rfl) ?_; refine awps_nil ?_; refine thenQ_nil ?_; refine awp_ret ?_
    -- leaf 0Fg22T1F
    refine ret0 (noL hL) (.inl rfl) (resAs_tmp rfl (resAs_nil)) ?_ ?_
    · rfl
    first
    | exact ⟨rfl, rfl⟩
    | exact absurd trivial (by assumption)
    | exact absurd rfl (by assumption)
    | exact Bool.noConfusion (show true = false by assumption)
    | trace_state
  try simp only [↓cqA, cqB] at g22
  refine awps_gs rfl rfl rfl rfl (by decide) rfl (by decide) ?_; refine awps_gs rfl rfl rfl rfl (by decide) rfl (by decide) ?_; refine awps_stp0 rfl rfl (by decide) (stp_pick rfl rfl rfl) ?_; refine awps_nil ?_; refine thenQ_nil ?_; refine awp_condF rfl ?_; refine awp_exit ?_; refine thenQ_exit (thenQ_exit (inQ_hit ?_)); refine thenQ_nil ?_; refine awp_seq ?_; refine awp_region ?_
  refine awps_call (avs := []) true rfl rfl rfl (by decide) en_almagestlaw2_wakes rfl rfl (wakes2_ok) rfl rfl ?_; refine awps_stp0 rfl rfl (by decide) (stp_move (.inr rfl) rfl) ?_; refine awps_nil ?_; refine thenQ_nil ?_; refine awp_ret ?_
  -- leaf 0Fg22F
  refine ret0 (noL hL) (.inl rfl) (resAs_tmp rfl (resAs_nil)) ?_ ?_
  · rfl
  first
  | exact ⟨rfl, rfl⟩
  | exact absurd trivial (by assumption)
  | exact absurd rfl (by assumption)
  | exact Bool.noConfusion (show true = false by assumption)
  | trace_state
end Go.Proofs.YtdecgkhdbfgldaaGreat
