/- Part 9 of the proof: Kg, Kf, Kh, Ki, Kj. -/
import Derived.Test.YtdecgkhdbfgldaaGreatF8
set_option linter.unusedVariables false
set_option linter.unusedSimpArgs false
set_option maxRecDepth 8000
namespace Go.Proofs.YtdecgkhdbfgldaaGreat
open Go Go.Maps
theorem nLk {c : Ctx} {Oin : List (Nat × Ob)} (hL : ∀ l, c.L l ↔ inD Oin l = true) {l : Nat} (h : inD Oin l = false) : ¬ c.L l := fun hl => by
  rw [(hL l).1 hl] at h; cases h
theorem seekR_step (q : Cl) (hq : q.wf) (hcb : clauseB q = true) (k : List Tm) (hk : ∀ t ∈ k, AtK t) (hkl : k.length ≤ 1000) (i0 : Nat) (hi0 : i0 ≤ q.body.length) (l : List Bd) (hl : FG l) (kvs : List (Lit × List D)) (hB : kvs.length + (seekL q.guards q.head k (q.body.drop i0) l).length ≤ 10000000)
    (ih : i0 < q.body.length → ∀ (l' : List Bd) (kvs' : List (Lit × List D)), FG l' → kvs'.length + (seekL q.guards q.head k (q.body.drop (i0 + 1)) l').length ≤ 10000000 → AC Tryz.prog 194 [clA q, .row 1, iv ((i0 : Int) + 1), bdA l', .map 4] [(1, .rowd 35 4 false (tmDs k)), (4, fndK kvs')] (fun r O => r = .tup [] ∧ O = [(1, .rowd 35 4 false (tmDs k)), (4, fndK (addM kvs' (seekL q.guards q.head k (q.body.drop (i0 + 1)) l')))])) :
    AC Tryz.prog 194 [clA q, .row 1, iv (i0 : Int), bdA l, .map 4] [(1, .rowd 35 4 false (tmDs k)), (4, fndK kvs)] (fun r O => r = .tup [] ∧ O = [(1, .rowd 35 4 false (tmDs k)), (4, fndK (addM kvs (seekL q.guards q.head k (q.body.drop i0) l)))]) := by
  obtain ⟨hh, ⟨hbl, hbw⟩, hgl, hgw⟩ := id hq
  have hlb := tmDs_length q.body
  have hlg := gdDs_length q.guards
  have hlk := tmDs_length k
  simp only [lenOk] at hbl hgl
  have hcb2 := hcb
  simp only [clauseB, atomB, Bool.and_eq_true, decide_eq_true_eq, List.all_eq_true] at hcb2
  obtain ⟨⟨⟨⟨⟨hhm, hhf⟩, hb3⟩, hg4⟩, hba⟩, hga⟩ := hcb2
  have hbok : BOk l := hl.gg.gb.bok
  have hmx : maxLen = 9223372036854775807 := rfl
  have hpm := hl.put hhm
  refine AC_intro Tryz.func194 rfl Tryz.ntmps194 (Nat.le_of_ble_eq_true rfl) fun c hL hQ hDD => ?_; refine awp_seq ?_; refine awp_region ?_; refine awps_stp1 rfl rfl (by decide) (stp_box 5 rfl rfl rfl) rfl ?_; refine awps_stp1 rfl rfl (by decide) (stp_box 8 rfl rfl rfl) rfl ?_; refine awps_nil ?_; refine thenQ_nil ?_; refine awp_seq ?_; refine awp_seq ?_; refine awp_region ?_; refine awps_stp0 rfl rfl (by decide) (stp_move (.inl rfl) rfl) ?_; refine awps_stp0 rfl rfl (by decide) (stp_fieldAddr rfl fo_api_Clause_1 rfl) ?_
  refine awps_stp0 rfl rfl (by decide) (stp_load rfl tf_S_api_Term rfl rfl rfl rfl rfl) ?_; refine awps_stp0 rfl rfl (by decide) (stp_len_dat rfl sl_S_api_Term rfl) ?_; refine awps_stp0 rfl rfl (by decide) (stp_binI rfl rfl rfl rfl) ?_; refine awps_nil ?_; refine thenQ_nil ?_; refine awp_cond rfl (fun c0 => ?_) (fun c0 => ?_)
  · try simp only [↓cqA, cqB] at c0
    have hn : q.body.drop i0 = [] := List.drop_eq_nil_of_le (by omega)
    rw [hn, seekL] at hB
    rw [hn, seekL]
    refine awp_seq ?_; refine awp_seq ?_; refine awp_region ?_; refine awps_stp0 rfl rfl (by decide) (stp_fieldAddr rfl fo_api_Clause_2 rfl) ?_; refine awps_stp0 rfl rfl (by decide) (stp_load rfl tf_S_api_Guard rfl rfl rfl rfl rfl) ?_; refine awps_stp0 rfl rfl (by decide) (stp_makeFunc (vs := [_]) rfl rfl) ?_
    refine awps_callP (avs := [_, _]) false rfl rfl rfl (by decide) en_slices_ContainsFunc_api_Guard_api_Guard rfl rfl (ContainsFunc_gd_ok false q.guards _ rfl (by omega) _ [.ptr 8 0] en_known_seek_1 (fun _ => [(8, .box [bdA l])]) (fun j => match q.guards[j]? with | some g => !(holdsC l g) | none => false) ⟨fun k l => rfl, fun k => passO (.cons rfl trivial rfl .nil), fun k => rfl, fun k => rfl, fun k => rfl, fun k => rfl, fun h => by cases h⟩ (fun j g hg _ => by rw [hg]; exact seek1_ok l hl g (hgw g (List.mem_of_getElem? hg)) (hga g (List.mem_of_getElem? hg)))) (rfl) (passO (.cons rfl trivial rfl .nil)) (by rintro r O' ⟨m, n, b, _, _, _, _, rfl⟩; exact frB rfl) (by rintro h; cases h) ?_
    rintro r O' ⟨m, n, b, hm1, hf1, hc1, rfl, rfl⟩
    have hb1 := cont_all (l := q.guards) (p := holdsC l) (fun j x hx => by simp only [hx]) hf1 hc1
    refine awps_stp0 rfl rfl (by decide) (stp_not rfl rfl) ?_; refine awps_nil ?_; refine thenQ_nil ?_; refine awp_cond rfl (fun c1 => ?_) (fun c1 => ?_)
    · try simp only [↓cqA, cqB] at c1
      have hall : q.guards.all (holdsC l) = true := by rw [hb1] at c1; simpa using c1
      rw [if_pos hall] at hB
      rw [if_pos hall]
      refine awp_seq ?_; refine awp_region ?_; refine awps_stp0 rfl rfl (by decide) (stp_load rfl tf_S_api_Bind rfl rfl rfl rfl rfl) ?_; refine awps_stp0 rfl rfl (by decide) (stp_fieldAddr rfl fo_api_Clause_0 rfl) ?_; refine awps_stp0 rfl rfl (by decide) (stp_load rfl tf_api_Term rfl rfl rfl rfl rfl) ?_
      refine awps_call (avs := [_, _]) true rfl rfl rfl (by decide) en_bind_Put rfl rfl (Put_ok l hbok q.head (may_dle hhm) hh) rfl rfl ?_; refine awps_stp1 rfl rfl (by decide) (stp_alloc 10 rfl zv_api_Term rfl) rfl ?_; refine awps_store rfl rfl rfl tf_api_Term rfl rfl rfl rfl rfl rfl rfl rfl rfl ?_; refine awps_nil ?_; refine thenQ_nil ?_; refine awp_sub (sub_untag hQ) ?_; refine awp_drawG 4 mixed rfl rfl rfl rfl ?_; refine MGo_c0 rfl (by decide) (.run rfl (stp_move (.inl rfl) rfl)) ?_; refine MGo_c0 rfl (by decide) (.run rfl (stp_load_all rfl tf_api_Term rfl rfl rfl rfl)) ?_
      refine MGo_c0 rfl (by decide) (.run rfl (stp_call (avs := [_]) true rfl en_term_Key rfl rfl (Key_ok 5 (putT l q.head) (may_dle hpm) (may_shp hpm) (putT_wf hbok hh) (by have := ((mayT_iff _).1 hpm).2.2; omega)) (fun _ => rfl) rfl)) ?_; refine MGo_c0 rfl (by decide) (.run rfl (stp_load_all rfl tf_api_Term rfl rfl rfl rfl)) ?_
      refine MGo_nil ⟨rfl, rfl, ?_⟩; refine awps_mxSet (ds := tmD (putT l q.head)) rfl rfl rfl um_known_found rfl rfl rfl rfl rfl (keyOf_key hpm) (by simp only [List.length_singleton] at hB; omega) ?_; refine awps_nil ?_; refine thenQ_nil ?_; refine awp_ret ?_; refine thenQ_ret (?_)
      -- leaf 0T1T
      change retQ _ _ _ _ _ _ _
      refine retO (O' := [(1, _), (4, _)]) (by first | exact .inl rfl | exact .inr rfl) resAs_nil (SubO.cons rfl (SubO.cons rfl SubO.nil)) ?_ ?_ (LOz hL rfl) ?_
      · rfl
      · rfl
      exact ⟨rfl, by first | rfl | rw [List.take_of_length_le (by omega)]⟩
    try simp only [↓cqA, cqB] at c1
    have hall : q.guards.all (holdsC l) = false := by rw [hb1] at c1; simpa using c1
    rw [if_neg (by simp [hall])]
    refine awp_skip ?_; refine thenQ_nil ?_; refine awp_ret ?_; refine thenQ_ret (?_)
    -- leaf 0T1F
    change retQ _ _ _ _ _ _ _
    refine retO (O' := [(1, _), (4, _)]) (by first | exact .inl rfl | exact .inr rfl) resAs_nil (SubO.cons rfl (SubO.cons rfl SubO.nil)) ?_ ?_ (LOz hL rfl) ?_
    · rfl
    · rfl
    exact ⟨rfl, by first | rfl | rw [List.take_of_length_le (by omega)]⟩
  try simp only [↓cqA, cqB] at c0
  obtain ⟨a, ha⟩ := get_of_lt (l := q.body) (k := i0) (by omega)
  have ham := List.mem_of_getElem? ha
  have haw := Tm.wfs_mem hbw ham
  obtain ⟨ha1, ha2⟩ := hba a ham
  have hdr : q.body.drop i0 = a :: q.body.drop (i0 + 1) := by
    obtain ⟨h1, h2⟩ := List.getElem?_eq_some_iff.1 ha
    rw [List.drop_eq_getElem_cons h1, h2]
  have hih := ih (by omega)
  rw [hdr, seekL] at hB
  rw [hdr, seekL]
  refine awp_skip ?_; refine thenQ_nil ?_; refine awp_seq ?_; refine awp_region ?_; refine awps_stp0 rfl rfl (by decide) (stp_move (.inl rfl) rfl) ?_; refine awps_stp0 rfl rfl (by decide) (stp_len_rowd rfl sl_S_api_Term rfl rfl) ?_; refine awps_stp0 rfl rfl (by decide) (stp_move (.inl rfl) rfl) ?_; refine awps_nil ?_; refine thenQ_nil ?_; refine awp_block ?_
  refine awp_while (k.length) (fun i => i ≤ k.length) (fun i => ⟨[(1, .row 1), (2, iv (i0 : Int)), (4, .map 4), (5, .ptr 5 0), (8, .ptr 8 0), (33, .row 1), (34, iv (tmDs k).length), (35, iv (i : Int))], [(1, .rowd 35 4 false (tmDs k)), (4, fndK (addM kvs ((k.take i).flatMap fun t => if (fitR 5 l a t).2 = 0 then seekL q.guards q.head k (q.body.drop (i0 + 1)) (fitR 5 l a t).1 else []))), (5, .box (lift false (clD q))), (8, .box [bdA l])]⟩) (by omega) ?_ (fun i hi hpi => ?_)
  · exact sub_re (SubT.cons (lk_eq rfl (by first | rfl | simp)) (SubT.cons (lk_eq rfl (by first | rfl | simp)) (SubT.cons (lk_eq rfl (by first | rfl | simp)) (SubT.cons (lk_eq rfl (by first | rfl | simp)) (SubT.cons (lk_eq rfl (by first | rfl | simp)) (SubT.cons (lk_eq rfl (by first | rfl | simp)) (SubT.cons (lk_eq rfl (by first | rfl | simp)) (SubT.cons (lk_eq rfl (by first | rfl | simp)) (SubT.nil))))))))) (SubO.cons (ok_eq rfl (by rfl)) (SubO.cons (ok_eq rfl (by rfl)) (SubO.cons (ok_eq rfl (by rfl)) (SubO.cons (ok_eq rfl (by rfl)) (SubO.nil))))) rfl rfl (LOz hL rfl)
  refine awp_seq ?_; refine awp_region ?_; refine awps_stp0 rfl rfl (by decide) (stp_binI rfl rfl rfl rfl) ?_; refine awps_nil ?_; refine thenQ_nil ?_; refine awp_seq ?_; refine awp_cond rfl (fun c2 => ?_) (fun c2 => ?_)
  · try simp only [↓cqA, cqB] at c2
    obtain ⟨t, ht⟩ := get_of_lt (l := k) (k := i) (by omega)
    have hta := hk t (List.mem_of_getElem? ht)
    have hft := flatMap_take (fun t => if (fitR 5 l a t).2 = 0 then seekL q.guards q.head k (q.body.drop (i0 + 1)) (fitR 5 l a t).1 else []) ht
    have hle := flatMap_take_le (fun t => if (fitR 5 l a t).2 = 0 then seekL q.guards q.head k (q.body.drop (i0 + 1)) (fitR 5 l a t).1 else []) k (i + 1)
    rw [hft, List.length_append] at hle
    have hal := addM_len ((k.take i).flatMap fun t => if (fitR 5 l a t).2 = 0 then seekL q.guards q.head k (q.body.drop (i0 + 1)) (fitR 5 l a t).1 else []) kvs
    refine awp_skip ?_; refine thenQ_nil ?_; refine awp_seq ?_; refine awp_block ?_; refine awp_seq ?_; refine awp_region ?_; refine awps_stp0 rfl rfl (by decide) (stp_indexAddr_rowd rfl sl_S_api_Term rfl rfl rfl (by omega) (by omega)) ?_
    refine awps_stp0 rfl rfl (by decide) (stp_load_rowdi i 0 rfl tf_api_Term rfl rfl (by omega) (tmDs_get ht) rfl rfl rfl) ?_; refine awps_stp1 rfl rfl (by decide) (stp_alloc 12 rfl zv_api_Term rfl) rfl ?_; refine awps_store rfl rfl rfl tf_api_Term rfl rfl rfl rfl rfl rfl rfl rfl rfl ?_; refine awps_nil ?_; refine thenQ_nil ?_; refine awp_seq ?_; refine awp_drawG 12 mixed rfl rfl rfl rfl ?_; refine MGo_c0 rfl (by decide) (.run rfl (stp_load rfl tf_S_api_Bind rfl rfl rfl rfl rfl)) ?_; refine MGo_c0 rfl (by decide) (.run rfl (stp_fieldAddr rfl fo_api_Clause_1 rfl)) ?_
    refine MGo_c0 rfl (by decide) (.run rfl (stp_load rfl tf_S_api_Term rfl rfl rfl rfl rfl)) ?_; refine MGo_c0 rfl (by decide) (.run rfl (stp_move (.inl rfl) rfl)) ?_; refine MGo_c0 rfl (by decide) (.run rfl (stp_indexAddr rfl sl_S_api_Term rfl rfl (by omega) (tmDs_get ha))) ?_; refine MGo_c0 rfl (by decide) (.run rfl (stp_load_elpa rfl tf_api_Term rfl rfl)) ?_; refine MGo_c0 rfl (by decide) (.run rfl (stp_load_all rfl tf_api_Term rfl rfl rfl rfl)) ?_
    refine MGo_c0 rfl (by decide) (.run rfl (stp_call (avs := [_, _, _]) false rfl en_unify_Fit rfl rfl (Fit_ok 5 l a t (may_dle ha1) (may_shp ha1) haw hbok hta.wf hta.may) (fun _ => rfl) rfl)) ?_; refine MGo_c0 rfl (by decide) (.run rfl (stp_move (.inl rfl) rfl)) ?_; refine MGo_c0 rfl (by decide) (.run rfl (stp_extract rfl rfl rfl)) ?_
    refine MGo_c0 rfl (by decide) (.run rfl (stp_extract rfl rfl rfl)) ?_; refine MGo_c0 rfl (by decide) (.run rfl (stp_move (.inr rfl) rfl)) ?_; refine MGo_nil ⟨rfl, rfl, ?_⟩; refine awps_stp0 rfl rfl (by decide) (stp_move (.inr rfl) rfl) ?_; refine awps_nil ?_; refine thenQ_nil ?_; refine awp_seq ?_; refine awp_region ?_; refine awps_stp0 rfl rfl (by decide) (stp_move (.inl rfl) rfl) ?_; refine awps_stp0 rfl rfl (by decide) (stp_binI rfl rfl rfl rfl) ?_; refine awps_nil ?_; refine thenQ_nil ?_; refine awp_cond rfl (fun c3 => ?_) (fun c3 => ?_)
    · try simp only [↓cqA, cqB] at c3
      obtain ⟨hfg, _, _⟩ := fit_leaf hl ha1 haw ha2 hta c3
      rw [if_pos c3] at hft hle
      refine awp_region ?_; refine awps_stp0 rfl rfl (by decide) (stp_load_all rfl tf_api_Clause rfl rfl rfl rfl) ?_; refine awps_stp0 rfl rfl (by decide) (stp_move (.inl rfl) rfl) ?_; refine awps_stp0 rfl rfl (by decide) (stp_move (.inl rfl) rfl) ?_; refine awps_stp0 rfl rfl (by decide) (stp_add rfl rfl rfl (by omega)) ?_; refine awps_stp0 rfl rfl (by decide) (stp_move (.inl rfl) rfl) ?_; refine awps_stp0 rfl rfl (by decide) (stp_move (.inl rfl) rfl) ?_
      refine awps_callP (avs := [_, _, _, _, _]) false rfl rfl rfl (by decide) en_known_seek rfl rfl (hih (fitR 5 l a t).1 _ hfg (by omega)) (rfl) (passO (.cons rfl trivial rfl (.cons rfl trivial rfl .nil))) (by rintro r O' ⟨_, rfl⟩; exact frB rfl) (by rintro h; cases h) ?_
      rintro r O' ⟨rfl, rfl⟩
      refine awps_nil ?_; refine inQ_nil ?_; refine thenQ_nil ?_; refine awp_region ?_; refine awps_stp0 rfl rfl (by decide) (stp_add rfl rfl rfl (by omega)) ?_; refine awps_stp0 rfl rfl (by decide) (stp_move (.inl rfl) rfl) ?_; refine awps_nil ?_; refine thenQ_nil ?_; refine ⟨?_, ?_, ?_⟩
      · skip
        omega
      · skip
        omega
      exact sub_re (SubT.cons (lk_eq rfl (by first | rfl | simp)) (SubT.cons (lk_eq rfl (by first | rfl | simp)) (SubT.cons (lk_eq rfl (by first | rfl | simp)) (SubT.cons (lk_eq rfl (by first | rfl | simp)) (SubT.cons (lk_eq rfl (by first | rfl | simp)) (SubT.cons (lk_eq rfl (by first | rfl | simp)) (SubT.cons (lk_eq rfl (by first | rfl | simp)) (SubT.cons (lk_eq rfl (by first | rfl | simp)) (SubT.nil))))))))) (SubO.cons (ok_eq rfl (by rfl)) (SubO.cons (ok_eq rfl (by first | (rw [hft, addM_app]; done) | (rw [hft, addM_app]; rfl) | (rw [hft, List.append_nil]; done) | (rw [hft, List.append_nil]; rfl))) (SubO.cons (ok_eq rfl (by rfl)) (SubO.cons (ok_eq rfl (by rfl)) (SubO.nil))))) rfl rfl (LOz hL rfl)
    try simp only [↓cqA, cqB] at c3
    rw [if_neg c3] at hft
    refine awp_skip ?_; refine inQ_nil ?_; refine thenQ_nil ?_; refine awp_region ?_; refine awps_stp0 rfl rfl (by decide) (stp_add rfl rfl rfl (by omega)) ?_; refine awps_stp0 rfl rfl (by decide) (stp_move (.inl rfl) rfl) ?_; refine awps_nil ?_; refine thenQ_nil ?_; refine ⟨?_, ?_, ?_⟩
    · skip
      omega
    · skip
      omega
    exact sub_re (SubT.cons (lk_eq rfl (by first | rfl | simp)) (SubT.cons (lk_eq rfl (by first | rfl | simp)) (SubT.cons (lk_eq rfl (by first | rfl | simp)) (SubT.cons (lk_eq rfl (by first | rfl | simp)) (SubT.cons (lk_eq rfl (by first | rfl | simp)) (SubT.cons (lk_eq rfl (by first | rfl | simp)) (SubT.cons (lk_eq rfl (by first | rfl | simp)) (SubT.cons (lk_eq rfl (by first | rfl | simp)) (SubT.nil))))))))) (SubO.cons (ok_eq rfl (by rfl)) (SubO.cons (ok_eq rfl (by first | (rw [hft, addM_app]; done) | (rw [hft, addM_app]; rfl) | (rw [hft, List.append_nil]; done) | (rw [hft, List.append_nil]; rfl))) (SubO.cons (ok_eq rfl (by rfl)) (SubO.cons (ok_eq rfl (by rfl)) (SubO.nil))))) rfl rfl (LOz hL rfl)
  try simp only [↓cqA, cqB] at c2
  refine awp_exit ?_; refine thenQ_exit (thenQ_exit (inQ_hit ?_))
  -- leaf 0F2F
  change retQ _ _ _ _ _ _ _
  refine retO (O' := [(1, _), (4, _)]) (by first | exact .inl rfl | exact .inr rfl) resAs_nil (SubO.cons rfl (SubO.cons rfl SubO.nil)) ?_ ?_ (LOz hL rfl) ?_
  · rfl
  · rfl
  exact ⟨rfl, by first | rfl | rw [List.take_of_length_le (by omega)]⟩
theorem seekR_ok (q : Cl) (hq : q.wf) (hcb : clauseB q = true) (k : List Tm) (hk : ∀ t ∈ k, AtK t) (hkl : k.length ≤ 1000) : ∀ (n i0 : Nat), i0 + n = q.body.length → ∀ (l : List Bd) (kvs : List (Lit × List D)), FG l → kvs.length + (seekL q.guards q.head k (q.body.drop i0) l).length ≤ 10000000 →
    AC Tryz.prog 194 [clA q, .row 1, iv (i0 : Int), bdA l, .map 4] [(1, .rowd 35 4 false (tmDs k)), (4, fndK kvs)] (fun r O => r = .tup [] ∧ O = [(1, .rowd 35 4 false (tmDs k)), (4, fndK (addM kvs (seekL q.guards q.head k (q.body.drop i0) l)))])
  | 0, i0, h, l, kvs, hl, hB => seekR_step q hq hcb k hk hkl i0 (by omega) l hl kvs hB (fun h2 => by omega)
  | n + 1, i0, h, l, kvs, hl, hB => seekR_step q hq hcb k hk hkl i0 (by omega) l hl kvs hB (fun _ l' kvs' hl' hB' => seekR_ok q hq hcb k hk hkl n (i0 + 1) (by omega) l' kvs' hl' hB')
theorem stepR_ok (cs : List Cl) (hcl : cs.length ≤ 10000000) (hw : ∀ c ∈ cs, c.wf) (hc : ∀ c ∈ cs, clauseE c = 0) (k : List Tm) (hk : ∀ t ∈ k, AtK t) (hkl : k.length ≤ 1000) (hB : (derL cs k).length ≤ 10000000) :
    AC Tryz.prog 133 [.dat false 6 (clDs cs), .row 1] [(1, .rowd 35 4 false (tmDs k))] (fun r O => r = .dat false 4 (tmDs (nextL cs k)) ∧ O = [(1, .rowd 35 4 false (tmDs k))]) := by
  have hlc := clDs_length cs
  have hlk := tmDs_length k
  have hcb : ∀ c ∈ cs, clauseB c = true := fun c hm => by
    have h := hc c hm
    cases h2 : clauseB c with
    | true => rfl
    | false => rw [clauseE, if_pos h2] at h; cases h
  have hder := derL_atk hw hc hk
  have hadd := addT_spec (derL cs k) [] (fun u hu => by cases hu) (fun u hu => (hder u hu).may) List.nodup_nil
  have hmay1 : ∀ u ∈ addT [] (derL cs k), mayT u = true := fun u hu => by
    rcases (hadd.2 u).1 hu with h | h
    · cases h
    · exact (hder u h).may
  have hdel := dels_spec k (addT [] (derL cs k)) hmay1 (fun u hu => (hk u hu).may) hadd.1
  have hmay2 : ∀ u ∈ dels (addT [] (derL cs k)) k, mayT u = true := fun u hu => hmay1 u ((hdel.2 u).1 hu).1
  have hal := addT_len (derL cs k) []
  have hdl : (dels (addT [] (derL cs k)) k).length ≤ (addT [] (derL cs k)).length := (hdel.1.length_le_of_subset fun x hx => ((hdel.2 x).1 hx).1)
  have hadk := fun i => addM_kvT ((cs.take i).flatMap fun c => seekL c.guards c.head k c.body []) []
  have hcur : ∀ i, (k.take i).foldl (fun m t => delT t m) (addT [] (derL cs k)) = dels (addT [] (derL cs k)) (k.take i) := fun i => rfl
  have hnewk : ∀ x ∈ dels (addT [] (derL cs k)) k, AtK x := fun x hx => by
    rcases (hadd.2 x).1 ((hdel.2 x).1 hx).1 with h | h
    · cases h
    · exact hder x h
  have hnewd : ∀ x ∈ newL cs k, dle 5 x := fun x hx => may_dle (hder x (List.mem_filter.1 hx).1).may
  simp only [List.length_nil, Nat.zero_add] at hal
  refine AC_intro Tryz.func133 rfl Tryz.ntmps133 (Nat.le_of_ble_eq_true rfl) fun c hL hQ hDD => ?_; refine awp_seq ?_; refine awp_region ?_; refine awps_stp0 rfl rfl (by decide) (stp_move (.inr rfl) rfl) ?_; refine awps_nil ?_; refine thenQ_nil ?_; refine awp_seq ?_; refine awp_region ?_; refine awps_stp1 rfl rfl (by decide) (stp_makeMx 13 rfl (Go.Maps.string_keyed ul_string)) rfl ?_
  refine awps_stp0 rfl rfl (by decide) (stp_move (.inr rfl) rfl) ?_; refine awps_nil ?_; refine thenQ_nil ?_; refine awp_seq ?_; refine awp_seq ?_; refine awp_region ?_; refine awps_stp0 rfl rfl (by decide) (stp_move (.inl rfl) rfl) ?_; refine awps_stp0 rfl rfl (by decide) (stp_len_dat rfl sl_S_api_Clause rfl) ?_; refine awps_stp0 rfl rfl (by decide) (stp_move (.inl rfl) rfl) ?_; refine awps_nil ?_; refine thenQ_nil ?_; refine awp_block ?_
  refine awp_while (cs.length) (fun i => i ≤ cs.length) (fun i => ⟨[(1, .row 1), (5, .map 13), (14, .dat false 6 (clDs cs)), (15, iv (clDs cs).length), (16, iv (i : Int))], [(1, .rowd 35 4 false (tmDs k)), (13, fndK (addM [] ((cs.take i).flatMap fun c => seekL c.guards c.head k c.body [])))]⟩) (by omega) ?_ (fun i hi hpi => ?_)
  · exact sub_re (SubT.cons (lk_eq rfl (by first | rfl | simp)) (SubT.cons (lk_eq rfl (by first | rfl | simp)) (SubT.cons (lk_eq rfl (by first | rfl | simp)) (SubT.cons (lk_eq rfl (by first | rfl | simp)) (SubT.cons (lk_eq rfl (by first | rfl | simp)) (SubT.nil)))))) (SubO.cons (ok_eq rfl (by rfl)) (SubO.cons (ok_eq rfl (by rfl)) (SubO.nil))) rfl rfl (LOz hL rfl)
  refine awp_seq ?_; refine awp_region ?_; refine awps_stp0 rfl rfl (by decide) (stp_binI rfl rfl rfl rfl) ?_; refine awps_nil ?_; refine thenQ_nil ?_; refine awp_seq ?_; refine awp_cond rfl (fun c0 => ?_) (fun c0 => ?_)
  · try simp only [↓cqA, cqB] at c0
    obtain ⟨q, hq⟩ := get_of_lt (l := cs) (k := i) (by omega)
    have hqm := List.mem_of_getElem? hq
    have hft := flatMap_take (fun c : Cl => seekL c.guards c.head k c.body []) hq
    have hle := flatMap_take_le (fun c : Cl => seekL c.guards c.head k c.body []) cs (i + 1)
    rw [hft, List.length_append] at hle
    have hal2 := addM_len ((cs.take i).flatMap fun c => seekL c.guards c.head k c.body []) []
    have hder2 : (derL cs k).length = (cs.flatMap fun c => seekL c.guards c.head k c.body []).length := rfl
    simp only [List.length_nil, Nat.zero_add] at hal2
    have hsk := seekR_ok q (hw q hqm) (hcb q hqm) k hk hkl q.body.length 0 (by omega) [] (addM [] ((cs.take i).flatMap fun c => seekL c.guards c.head k c.body [])) FG_nil (by rw [List.drop_zero]; omega)
    rw [List.drop_zero] at hsk
    have hsk2 := AC_rnE 4 13 (AC_le (.cons .refl (.cons .refl (.cons .refl (.cons .nil (.cons .refl .nil))))) hsk)
    refine awp_skip ?_; refine thenQ_nil ?_; refine awp_seq ?_; refine awp_block ?_; refine awp_seq ?_; refine awp_region ?_; refine awps_stp0 rfl rfl (by decide) (stp_indexAddr rfl sl_S_api_Clause rfl rfl (by omega) (clDs_get hq)) ?_; refine awps_stp0 rfl rfl (by decide) (stp_load_elpa rfl tf_api_Clause rfl rfl) ?_; refine awps_stp1 rfl rfl (by decide) (stp_alloc 7 rfl zv_api_Clause rfl) rfl ?_; refine awps_store rfl rfl rfl tf_api_Clause rfl rfl rfl rfl rfl rfl rfl rfl rfl ?_; refine awps_nil ?_; refine thenQ_nil ?_; refine awp_region ?_
    refine awps_stp0 rfl rfl (by decide) (stp_load_all rfl tf_api_Clause rfl rfl rfl rfl) ?_; refine awps_stp0 rfl rfl (by decide) (stp_move (.inl rfl) rfl) ?_; refine awps_stp0 rfl rfl (by decide) (stp_move (.inl rfl) rfl) ?_; refine awps_callP (avs := [_, _, _, _, _]) false rfl rfl rfl (by decide) en_known_seek rfl rfl (hsk2) (rfl) (passO (.cons rfl trivial rfl (.cons rfl trivial rfl .nil))) (by rintro r O' ⟨rfl, rfl⟩; exact frB rfl) (by rintro h; cases h) ?_
    rintro r O' ⟨rfl, rfl⟩
    refine awps_nil ?_; refine inQ_nil ?_; refine thenQ_nil ?_; refine awp_region ?_; refine awps_stp0 rfl rfl (by decide) (stp_add rfl rfl rfl (by omega)) ?_; refine awps_stp0 rfl rfl (by decide) (stp_move (.inl rfl) rfl) ?_; refine awps_nil ?_; refine thenQ_nil ?_; refine ⟨?_, ?_, ?_⟩
    · skip
      omega
    · skip
      omega
    exact sub_re (SubT.cons (lk_eq rfl (by first | rfl | simp)) (SubT.cons (lk_eq rfl (by first | rfl | simp)) (SubT.cons (lk_eq rfl (by first | rfl | simp)) (SubT.cons (lk_eq rfl (by first | rfl | simp)) (SubT.cons (lk_eq rfl (by first | rfl | simp)) (SubT.nil)))))) (SubO.cons (ok_eq rfl (by rfl)) (SubO.cons (ok_eq rfl (by rw [hft, addM_app]; rfl)) (SubO.nil))) rfl rfl (LOz hL rfl)
  try simp only [↓cqA, cqB] at c0
  refine awp_exit ?_; refine thenQ_exit (thenQ_exit (inQ_hit ?_)); refine thenQ_nil ?_; refine awp_seq ?_; refine awp_seq ?_
  rw [List.take_of_length_le (l := cs) (i := i) (by omega), show ([] : List (Lit × List D)) = kvT [] from rfl, addM_kvT]
  refine awp_region ?_; refine awps_stp0 rfl rfl (by decide) (stp_move (.inl rfl) rfl) ?_; refine awps_stp0 rfl rfl (by decide) (stp_len_rowd rfl sl_S_api_Term rfl rfl) ?_; refine awps_stp0 rfl rfl (by decide) (stp_move (.inl rfl) rfl) ?_; refine awps_nil ?_; refine thenQ_nil ?_; refine awp_block ?_; refine awp_while (k.length) (fun j => j ≤ k.length) (fun j => ⟨[(5, .map 13), (25, .row 1), (26, iv (tmDs k).length), (27, iv (j : Int))], [(1, .rowd 35 4 false (tmDs k)), (13, fndK (kvT (dels (addT [] (derL cs k)) (k.take j))))]⟩) (by omega) ?_ (fun j hj hpj => ?_)
  · exact sub_re (SubT.cons (lk_eq rfl (by first | rfl | simp)) (SubT.cons (lk_eq rfl (by first | rfl | simp)) (SubT.cons (lk_eq rfl (by first | rfl | simp)) (SubT.cons (lk_eq rfl (by first | rfl | simp)) (SubT.nil))))) (SubO.cons (ok_eq rfl (by rfl)) (SubO.cons (ok_eq rfl (by rfl)) (SubO.nil))) rfl rfl (LOz hL rfl)
  refine awp_seq ?_; refine awp_region ?_; refine awps_stp0 rfl rfl (by decide) (stp_binI rfl rfl rfl rfl) ?_; refine awps_nil ?_; refine thenQ_nil ?_; refine awp_seq ?_; refine awp_cond rfl (fun c1 => ?_) (fun c1 => ?_)
  · try simp only [↓cqA, cqB] at c1
    obtain ⟨t, ht⟩ := get_of_lt (l := k) (k := j) (by omega)
    have hta := hk t (List.mem_of_getElem? ht)
    refine awp_skip ?_; refine thenQ_nil ?_; refine awp_seq ?_; refine awp_block ?_; refine awp_seq ?_; refine awp_region ?_; refine awps_stp0 rfl rfl (by decide) (stp_indexAddr_rowd rfl sl_S_api_Term rfl rfl rfl (by omega) (by omega)) ?_; refine awps_stp0 rfl rfl (by decide) (stp_load_rowdi j 0 rfl tf_api_Term rfl rfl (by omega) (tmDs_get ht) rfl rfl rfl) ?_; refine awps_stp1 rfl rfl (by decide) (stp_alloc 9 rfl zv_api_Term rfl) rfl ?_; refine awps_store rfl rfl rfl tf_api_Term rfl rfl rfl rfl rfl rfl rfl rfl rfl ?_; refine awps_nil ?_; refine thenQ_nil ?_; refine awp_region ?_
    refine awps_stp0 rfl rfl (by decide) (stp_move (.inl rfl) rfl) ?_; refine awps_stp0 rfl rfl (by decide) (stp_load_all rfl tf_api_Term rfl rfl rfl rfl) ?_; refine awps_call (avs := [_]) true rfl rfl rfl (by decide) en_term_Key rfl rfl (Key_ok 5 t (may_dle hta.may) (may_shp hta.may) hta.wf (by have := ((mayT_iff _).1 hta.may).2.2; omega)) rfl rfl ?_; refine awps_mxDel rfl rfl rfl um_known_found rfl rfl rfl rfl (keyOf_key hta.may) ?_; refine awps_nil ?_; refine inQ_nil ?_; refine thenQ_nil ?_; refine awp_region ?_
    refine awps_stp0 rfl rfl (by decide) (stp_add rfl rfl rfl (by omega)) ?_; refine awps_stp0 rfl rfl (by decide) (stp_move (.inl rfl) rfl) ?_; refine awps_nil ?_; refine thenQ_nil ?_; refine ⟨?_, ?_, ?_⟩
    · skip
      omega
    · skip
      omega
    exact sub_re (SubT.cons (lk_eq rfl (by first | rfl | simp)) (SubT.cons (lk_eq rfl (by first | rfl | simp)) (SubT.cons (lk_eq rfl (by first | rfl | simp)) (SubT.cons (lk_eq rfl (by first | rfl | simp)) (SubT.nil))))) (SubO.cons (ok_eq rfl (by rfl)) (SubO.cons (ok_eq rfl (by rw [mvDel_kvT, dels_snoc _ ht])) (SubO.nil))) rfl rfl (LOz hL rfl)
  try simp only [↓cqA, cqB] at c1
  refine awp_exit ?_; refine thenQ_exit (thenQ_exit (inQ_hit ?_)); refine thenQ_nil ?_; refine awp_seq ?_
  rw [List.take_of_length_le (l := k) (i := j) (by omega)]
  refine awp_region ?_; refine awps_stp0 rfl rfl (by decide) (stp_move (.inr rfl) rfl) ?_; refine awps_nil ?_; refine thenQ_nil ?_; refine awp_seq ?_; refine awp_seq ?_; refine awp_region ?_; refine awps_stp0 rfl rfl (by decide) (stp_move (.inl rfl) rfl) ?_; refine awps_mxRange (l' := 36) rfl rfl rfl (by decide) um_known_found rfl rfl (nLk hL rfl) rfl ?_; refine awps_nil ?_; refine thenQ_nil ?_; refine awp_block ?_
  refine awp_whileE (α := List Tm × List Tm × Option (List D)) ((dels (addT [] (derL cs k)) k).length) (fun r a => (a.2.1 ++ a.1).Perm (dels (addT [] (derL cs k)) k) ∧ a.2.1.length = r) (fun r a => ⟨[(10, .row 10), (36, .ptr 36 0)], [(1, .rowd 35 4 false (tmDs k)), (10, .rowd 35 4 false (a.2.1.map tmD)), (36, wlkK a.1 a.2.2)]⟩) ((dels (addT [] (derL cs k)) k, [], none)) (⟨.refl _, rfl⟩) ?_ (fun r a hr hpr => ?_)
  · exact Sub.trans (sub_nil_row (t := 10) (l := 10) 35 4 false rfl rfl) (sub_re (SubT.cons (lk_eq rfl (by first | rfl | simp)) (SubT.cons (lk_eq rfl (by first | rfl | simp)) (SubT.nil))) (SubO.cons (ok_eq rfl (by rfl)) (SubO.cons (ok_eq rfl (by rfl)) (SubO.cons (ok_eq rfl (by rfl)) (SubO.nil)))) rfl rfl (LOz hL rfl))
  have hpl := hpr.1.length_eq
  rw [List.length_append] at hpl
  have hml : (a.2.1.map tmD).length ≤ 10000000 := by rw [List.length_map]; omega
  refine awp_seq ?_; refine awp_region ?_; refine awps_mxNext rfl rfl rfl (by decide) rfl rfl (fun h0 => ?_) (fun pe hpe => ?_)
  · skip
    have hnil : a.1 = [] := by cases h : a.1 with
      | nil => rfl
      | cons x y => rw [h] at h0; cases h0
    have hdone : a.2.1.Perm (dels (addT [] (derL cs k)) k) := by have := hpr.1; rw [hnil, List.append_nil] at this; exact this
    refine awps_stp0 rfl rfl (by decide) (stp_extract rfl rfl rfl) ?_; refine awps_nil ?_; refine thenQ_nil ?_; refine awp_seq ?_; refine awp_condF rfl ?_; refine awp_exit ?_; refine thenQ_exit (thenQ_exit (inQ_hit ?_)); refine thenQ_nil ?_; refine awp_seq ?_; refine awp_region ?_; refine awps_stp0 rfl rfl (by decide) (stp_move (.inl rfl) rfl) ?_
    refine awps_sort Tryz.srtT (k := 4) (by decide) tf_api_Term (sf := 134) rfl en_term_Compare en_slices_SortFunc_api_Term_api_Term (toD := tmD) (es := a.2.1) (cf := cmpT 5) rfl rfl (by decide) rfl rfl rfl rfl (by omega) (fun x hx y hy => ?_) (fun x _ => by rw [(TP.tm 5).self]; decide) (fun x _ y _ z _ h1 h2 => (TP.tm 5).lt1 h1 (by omega)) (fun x _ y _ z _ h1 h2 h3 => ?_) (fun es' hp2 hs2 => ?_)
    · have ax := hnewk x (hdone.mem_iff.1 hx)
      have ay := hnewk y (hdone.mem_iff.1 hy)
      exact Compare_ok 5 x y (may_dle ax.may) ax.wf ay.wf
    · have h4 := (TP.tm 5).anti x y
      have h5 := (TP.tm 5).anti y z
      have h6 := (TP.tm 5).anti x z
      have h7 := (TP.tm 5).tr z y x (by omega) (by omega)
      omega
    obtain rfl : es' = nextL cs k := by
      have e1 := perm_ss (fun x hx => may_dle (hnewk x (hdone.mem_iff.1 hx)).may) (hdone.nodup_iff.2 hdel.1) hp2 hs2
      rw [e1, nextL]
      refine SS.uniq (srtU_ss fun x hx => may_dle (hnewk x (hdone.mem_iff.1 hx)).may) (srtU_ss hnewd) (fun x => ?_)
      rw [srtU_mem (fun x hx => may_dle (hnewk x (hdone.mem_iff.1 hx)).may), srtU_mem hnewd, hdone.mem_iff, hdel.2, hadd.2, newL, List.mem_filter]
      simp only [Bool.not_eq_true']
      constructor
      · rintro ⟨h1 | h1, h2⟩
        · cases h1
        · refine ⟨h1, ?_⟩
          cases hm : memK k x with
          | false => rfl
          | true => exact absurd ((memK_iff (fun u hu => may_dle (hk u hu).may)).1 hm) h2
      · rintro ⟨h1, h2⟩
        refine ⟨.inr h1, fun h3 => ?_⟩
        rw [(memK_iff (fun u hu => may_dle (hk u hu).may)).2 h3] at h2; cases h2
    refine awps_nil ?_; refine thenQ_nil ?_; refine awp_seq ?_; refine awp_sub (sub_freeze (l := 10) rfl (by decide) (nLk hL rfl) rfl rfl) ?_; refine awp_region ?_; refine awps_stp0 rfl rfl (by decide) (stp_move (.inl rfl) rfl) ?_; refine awps_stp0 rfl rfl (by decide) (stp_move (.inr rfl) rfl) ?_; refine awps_nil ?_; refine thenQ_nil ?_; refine awp_ret ?_
    -- leaf 0F1Ff14.0_0
    change retQ _ _ _ _ _ _ _
    refine retO (O' := [(1, _)]) (by first | exact .inl rfl | exact .inr rfl) (resAs_tmp rfl resAs_nil) (SubO.cons rfl SubO.nil) ?_ ?_ (LOz hL rfl) ?_
    · rfl
    · rfl
    exact ⟨by rw [tmDs_map]; rfl, rfl⟩
  obtain ⟨t, ht, rfl⟩ := List.mem_map.1 hpe
  have hsub : ∀ x ∈ a.1, mayT x = true := fun x hx => hmay2 x (hpr.1.mem_iff.1 (List.mem_append_right _ hx))
  have hnd : a.1.Nodup := ((List.nodup_append.1 (hpr.1.nodup_iff.2 hdel.1)).2.1)
  have hpm := delT_perm (hsub t ht) hsub hnd ht
  have hpo : 0 < a.1.length := List.length_pos_of_mem ht
  have hlt : r < (dels (addT [] (derL cs k)) k).length := by omega
  rw [show (kv t).1 = keyM t from rfl, show (kv t).2 = tmD t from rfl, mvDel_kvT]
  refine awps_stp0 rfl rfl (by decide) (stp_extract rfl rfl rfl) ?_; refine awps_nil ?_; refine thenQ_nil ?_; refine awp_seq ?_; refine awp_condT rfl ?_; refine awp_skip ?_; refine thenQ_nil ?_; refine awp_block ?_; refine awp_seq ?_; refine awp_region ?_; refine awps_stp0 rfl rfl (by decide) (stp_mxEntry rfl rfl rfl) ?_; refine awps_stp0 rfl rfl (by decide) (stp_extract rfl rfl rfl) ?_
  refine awps_stp1 rfl rfl (by decide) (stp_alloc 12 rfl zv_api_Term rfl) rfl ?_; refine awps_store rfl rfl rfl tf_api_Term rfl rfl rfl rfl rfl rfl rfl rfl rfl ?_; refine awps_nil ?_; refine thenQ_nil ?_; refine awp_region ?_; refine awps_stp0 rfl rfl (by decide) (stp_move (.inl rfl) rfl) ?_; refine awps_stp0 rfl rfl (by decide) (stp_load_all rfl tf_api_Term rfl rfl rfl rfl) ?_; refine awps_stp1 rfl rfl (by decide) (stp_buildSlice 43 rfl sl_S_api_Term zv_api_Term rfl rfl (by decide) (by decide) (by decide) rfl rfl rfl) rfl ?_
  refine awps_u rfl rfl (by decide) (stpU_append1 44 ta_S_api_Term rfl rfl rfl rfl rfl rfl rfl rfl (nLk hL rfl) (by omega) rfl) rfl ?_; refine awps_stp0 rfl rfl (by decide) (stp_move (.inr rfl) rfl) ?_; refine awps_nil ?_; refine inQ_nil ?_; refine thenQ_nil ?_; refine ⟨?_, (delT t a.1, a.2.1 ++ [t], some (tmD t)), ?_, ?_⟩
  · skip
    omega
  · skip
    refine ⟨?_, by simp; omega⟩
    have h1 : (a.2.1 ++ [t] ++ delT t a.1).Perm (a.2.1 ++ a.1) := by
      rw [List.append_assoc]
      exact (List.Perm.append_left a.2.1 hpm)
    exact h1.trans hpr.1
  exact Sub.trans (sub_rename 44 10 (nLk hL rfl) (nLk hL rfl)) (sub_re (SubT.cons (lk_eq rfl (by first | rfl | simp)) (SubT.cons (lk_eq rfl (by first | rfl | simp)) (SubT.nil))) (SubO.cons (ok_eq rfl (by rfl)) (SubO.cons (ok_eq rfl (by rw [List.map_append]; rfl)) (SubO.cons (ok_eq rfl (by rfl)) (SubO.nil)))) rfl rfl (LOz hL rfl))
end Go.Proofs.YtdecgkhdbfgldaaGreat

set_option linter.unusedVariables false
set_option linter.unusedSimpArgs false
set_option maxRecDepth 8000
namespace Go.Proofs.YtdecgkhdbfgldaaGreat
open Go Go.Maps
theorem srtU_perm {l : List Tm} (hd : ∀ a ∈ l, dle 5 a) (hn : l.Nodup) : (srtU l).Perm l :=
  (List.perm_ext_iff_of_nodup (srtU_ss hd).nodup hn).2 fun _ => srtU_mem hd
def allR (cs : List Cl) : Nat → List Tm → List Tm × Int
  | 0, _ => ([], 2)
  | n + 1, k => if (nextL cs k).length = 0 then (k, 0) else if 60 < k.length + (nextL cs k).length then ([], 2) else allR cs n (srtU (k ++ nextL cs k))
def okC (c : Cl) : Bool := decide (clauseE c = 0)
def allC (cs : List Cl) : List Tm × Int := if cs.all okC then allR cs 61 [] else ([], 1)
structure Kn (k : List Tm) : Prop where
  atk : ∀ t ∈ k, AtK t
  ss : SS k
  len : k.length ≤ 60
theorem Kn.nil : Kn [] := ⟨fun t ht => (by cases ht), List.Pairwise.nil, by simp⟩
theorem Kn.dl {k : List Tm} (h : Kn k) : ∀ t ∈ k, dle 5 t := fun t ht => may_dle (h.atk t ht).may
theorem nextL_mem {cs : List Cl} (hw : ∀ c ∈ cs, c.wf) (hc : ∀ c ∈ cs, clauseE c = 0) {k : List Tm} (h : ∀ t ∈ k, AtK t) {x : Tm} : x ∈ nextL cs k ↔ x ∈ derL cs k ∧ x ∉ k := by
  have hd : ∀ a ∈ newL cs k, dle 5 a := fun a ha => may_dle (derL_atk hw hc h a (List.mem_filter.1 ha).1).may
  rw [nextL, srtU_mem hd, newL, List.mem_filter, Bool.not_eq_true', ← Bool.not_eq_true, memK_iff fun t ht => may_dle (h t ht).may]
theorem grow_perm {cs : List Cl} (hw : ∀ c ∈ cs, c.wf) (hc : ∀ c ∈ cs, clauseE c = 0) {k : List Tm} (h : Kn k) : (srtU (k ++ nextL cs k)).Perm (k ++ nextL cs k) ∧ (∀ t ∈ k ++ nextL cs k, AtK t) ∧ (k ++ nextL cs k).Nodup := by
  have ha : ∀ t ∈ k ++ nextL cs k, AtK t := fun t ht => by
    rcases List.mem_append.1 ht with ht | ht
    · exact h.atk t ht
    · exact nextL_atk hw hc h.atk t ht
  have hd : ∀ a ∈ newL cs k, dle 5 a := fun a ha => may_dle (derL_atk hw hc h.atk a (List.mem_filter.1 ha).1).may
  have hn : (k ++ nextL cs k).Nodup := List.nodup_append.2 ⟨h.ss.nodup, (srtU_ss hd).nodup, fun x hx y hy e => by
    subst e; exact ((nextL_mem hw hc h.atk).1 hy).2 hx⟩
  exact ⟨srtU_perm (fun t ht => may_dle (ha t ht).may) hn, ha, hn⟩
theorem Kn.grow {cs : List Cl} (hw : ∀ c ∈ cs, c.wf) (hc : ∀ c ∈ cs, clauseE c = 0) {k : List Tm} (h : Kn k) (hl : k.length + (nextL cs k).length ≤ 60) : Kn (srtU (k ++ nextL cs k)) := by
  obtain ⟨h1, h2, h3⟩ := grow_perm hw hc h
  refine ⟨fun t ht => h2 t (h1.mem_iff.1 ht), srtU_ss fun t ht => may_dle (h2 t ht).may, ?_⟩
  rw [h1.length_eq, List.length_append]; exact hl
theorem nextL_len {cs : List Cl} (hw : ∀ c ∈ cs, c.wf) (hc : ∀ c ∈ cs, clauseE c = 0) {k : List Tm} (h : ∀ t ∈ k, AtK t) : (nextL cs k).length ≤ (derL cs k).length := by
  have hd : ∀ a ∈ newL cs k, dle 5 a := fun a ha => may_dle (derL_atk hw hc h a (List.mem_filter.1 ha).1).may
  refine List.Nodup.length_le_of_subset (srtU_ss hd).nodup fun x hx => ?_
  exact (List.mem_filter.1 ((srtU_mem hd).1 hx)).1
theorem IndexFunc_cl_ok (B : Bool) (ts : List Cl) (es : List (List D)) (hes : es = ts.map clD) (hlen : ts.length ≤ 140737488351232) (g : FuncId) (caps : List AV) (hen : Enters Tryz.prog g) (Os : Nat → List (Nat × Ob)) (p : Nat → Bool) (hO : Thread B caps Os)
    (hstep : ∀ k u, ts[k]? = some u → (∀ j, j < k → p j = false) → AC Tryz.prog g (clA u :: caps) (Os k) (fun r O => r = bv (p k) ∧ O = Os (k + 1))) :
    AC Tryz.prog 192 [.dat false 6 es, .fn g caps] (Os 0) (fun r O => ∃ m n i, m ≤ ts.length ∧ (∀ j, j < m → p j = false) ∧ ((m < ts.length ∧ p m = true ∧ i = (m : Int) ∧ n = m + 1) ∨ (m = ts.length ∧ i = -1 ∧ n = m)) ∧ r = iv i ∧ O = Os n) := by
  have hl : es.length = ts.length := by rw [hes, List.length_map]
  refine AC_intro Tryz.func192 rfl Tryz.ntmps192 (Nat.le_of_ble_eq_true rfl) fun c hL hQ hDD => ?_; refine awp_seq ?_; refine awp_region ?_; refine awps_stp0 rfl rfl (by decide) (stp_move (.inr rfl) rfl) ?_; refine awps_nil ?_; refine thenQ_nil ?_; refine awp_seq ?_; refine awp_seq ?_; refine awp_region ?_; refine awps_stp0 rfl rfl (by decide) (stp_move (.inl rfl) rfl) ?_; refine awps_stp0 rfl rfl (by decide) (stp_len_dat rfl sl_S_api_Clause rfl) ?_
  refine awps_stp0 rfl rfl (by decide) (stp_move (.inl rfl) rfl) ?_; refine awps_nil ?_; refine thenQ_nil ?_; refine awp_block ?_; refine awp_while (ts.length) (fun k => k ≤ ts.length ∧ ∀ j, j < k → p j = false) (fun k => ⟨[(0, .dat false 6 es), (1, .fn g caps), (7, iv es.length), (8, iv (k : Int))], Os k⟩) (⟨by omega, fun j hj => absurd hj (by omega)⟩) ?_ (fun k hk hp => ?_)
  · exact sub_re (SubT.cons (lk_eq rfl (by first | rfl | simp)) (SubT.cons (lk_eq rfl (by first | rfl | simp)) (SubT.cons (lk_eq rfl (by first | rfl | simp)) (SubT.cons (lk_eq rfl (by first | rfl | simp)) (SubT.nil))))) (fun _ _ h => h) (by simp [allT, AV.allL, hO.all]) (hO.self _) (fun l hl => by rw [hO.dom]; exact (hL l).1 hl)
  refine awp_seq ?_; refine awp_region ?_; refine awps_stp0 rfl rfl (by decide) (stp_binI rfl rfl rfl rfl) ?_; refine awps_nil ?_; refine thenQ_nil ?_; refine awp_seq ?_; refine awp_cond rfl (fun c0 => ?_) (fun c0 => ?_)
  · try simp only [↓cqA, cqB] at c0
    obtain ⟨u, hu⟩ := get_of_lt (l := ts) (k := k) (by omega)
    refine awp_skip ?_; refine thenQ_nil ?_; refine awp_seq ?_; refine awp_block ?_; refine awp_seq ?_; refine awp_region ?_; refine awps_stp0 rfl rfl (by decide) (stp_move (.inl rfl) rfl) ?_; refine awps_stp0 rfl rfl (by decide) (stp_move (.inr rfl) rfl) ?_; refine awps_nil ?_; refine thenQ_nil ?_; refine awp_seq ?_; refine awp_region ?_; refine awps_stp0 rfl rfl (by decide) (stp_move (.inl rfl) rfl) ?_; refine awps_stp0 rfl rfl (by decide) (stp_move (.inl rfl) rfl) ?_; refine awps_stp0 rfl rfl (by decide) (stp_move (.inl rfl) rfl) ?_
    refine awps_stp0 rfl rfl (by decide) (stp_indexAddr rfl sl_S_api_Clause rfl rfl (by omega) (by rw [hes, List.getElem?_map]; exact congrArg (Option.map clD) hu)) ?_; refine awps_stp0 rfl rfl (by decide) (stp_load_elpa rfl tf_api_Clause rfl rfl) ?_; refine awps_callP (avs := [_]) B rfl rfl rfl (by decide) hen rfl rfl (hstep k u hu hp.2) (by rw [List.cons_append, List.nil_append]; simp only [AV.cvs, hO.cvs]; rfl) (hO.pass k) (by rintro r O' ⟨_, rfl⟩ l hl; left; rw [hO.dom] at hl ⊢; exact hl) (by rintro hB r O' ⟨rfl, rfl⟩; exact ⟨rfl, hO.q hB _⟩) ?_
    rintro r O' ⟨rfl, rfl⟩
    refine awps_nil ?_; refine thenQ_nil ?_; refine awp_cond rfl (fun c1 => ?_) (fun c1 => ?_)
    · try simp only [↓cqA, cqB] at c1
      refine awp_seq ?_; refine awp_region ?_; refine awps_stp0 rfl rfl (by decide) (stp_move (.inl rfl) rfl) ?_; refine awps_stp0 rfl rfl (by decide) (stp_move (.inr rfl) rfl) ?_; refine awps_nil ?_; refine thenQ_nil ?_; refine awp_ret ?_; refine inQ_ret (thenQ_ret (thenQ_ret (inQ_ret (thenQ_ret (?_)))))
      change retQ _ _ _ _ _ _ _
      refine retO (.inl rfl) (resAs_tmp rfl resAs_nil) SubO.left rfl (hO.self _) (fun l hl => by rw [hO.dom]; exact (hL l).1 hl) ?_
      exact ⟨k, _, _, by omega, hp.2, .inl ⟨by omega, c1, rfl, rfl⟩, rfl, rfl⟩
    try simp only [↓cqA, cqB] at c1
    refine awp_skip ?_; refine inQ_nil ?_; refine thenQ_nil ?_; refine awp_region ?_; refine awps_stp0 rfl rfl (by decide) (stp_add rfl rfl rfl (by omega)) ?_; refine awps_stp0 rfl rfl (by decide) (stp_move (.inl rfl) rfl) ?_; refine awps_nil ?_; refine thenQ_nil ?_; refine ⟨?_, ?_, ?_⟩
    · skip
      omega
    · skip
      refine ⟨by omega, fun j hj => ?_⟩
      by_cases hjk : j < k
      · exact hp.2 j hjk
      · rw [show j = k by omega]; exact c1
    exact sub_re (SubT.cons (lk_eq rfl (by first | rfl | simp)) (SubT.cons (lk_eq rfl (by first | rfl | simp)) (SubT.cons (lk_eq rfl (by first | rfl | simp)) (SubT.cons (lk_eq rfl (by first | rfl | simp)) (SubT.nil))))) (SubO.left) (by simp [allT, AV.allL, hO.all]) (hO.self _) (fun l hl => by rw [hO.dom]; exact (hL l).1 hl)
  try simp only [↓cqA, cqB] at c0
  refine awp_exit ?_; refine thenQ_exit (thenQ_exit (inQ_hit ?_)); refine thenQ_nil ?_; refine awp_seq ?_; refine awp_region ?_; refine awps_stp0 rfl rfl (by decide) (stp_move (.inr rfl) rfl) ?_; refine awps_nil ?_; refine thenQ_nil ?_; refine awp_ret ?_
  change retQ _ _ _ _ _ _ _
  refine retO (.inl rfl) (resAs_tmp rfl resAs_nil) (fun _ _ h => h) rfl (hO.self _) (fun l hl => by rw [hO.dom]; exact (hL l).1 hl) ?_
  exact ⟨k, _, _, by omega, hp.2, .inr ⟨by omega, rfl, rfl⟩, rfl, rfl⟩
theorem ContainsFunc_cl_ok (B : Bool) (ts : List Cl) (es : List (List D)) (hes : es = ts.map clD) (hlen : ts.length ≤ 140737488351232) (g : FuncId) (caps : List AV) (hen : Enters Tryz.prog g) (Os : Nat → List (Nat × Ob)) (p : Nat → Bool) (hO : Thread B caps Os)
    (hstep : ∀ k u, ts[k]? = some u → (∀ j, j < k → p j = false) → AC Tryz.prog g (clA u :: caps) (Os k) (fun r O => r = bv (p k) ∧ O = Os (k + 1))) :
    AC Tryz.prog 131 [.dat false 6 es, .fn g caps] (Os 0) (fun r O => ∃ m n b, m ≤ ts.length ∧ (∀ j, j < m → p j = false) ∧ ((m < ts.length ∧ p m = true ∧ b = true ∧ n = m + 1) ∨ (m = ts.length ∧ b = false ∧ n = m)) ∧ r = bv b ∧ O = Os n) := by
  refine AC_intro Tryz.func131 rfl Tryz.ntmps131 (Nat.le_of_ble_eq_true rfl) fun c hL hQ hDD => ?_; refine awp_seq ?_; refine awp_region ?_; refine awps_stp0 rfl rfl (by decide) (stp_move (.inr rfl) rfl) ?_; refine awps_nil ?_; refine thenQ_nil ?_; refine awp_seq ?_; refine awp_region ?_; refine awps_stp0 rfl rfl (by decide) (stp_move (.inl rfl) rfl) ?_; refine awps_stp0 rfl rfl (by decide) (stp_move (.inl rfl) rfl) ?_
  refine awps_callP (avs := [_, _]) B rfl rfl rfl (by decide) en_slices_IndexFunc_api_Clause_api_Clause rfl rfl (IndexFunc_cl_ok B ts es hes hlen g caps hen Os p hO hstep) (by simp only [List.append_nil, AV.cvs, AV.cv, hO.cvs]; rfl) (hO.pass 0) (by rintro r O' ⟨m, n, i, _, _, _, _, rfl⟩ l hl; left; rw [hO.dom] at hl ⊢; exact hl) (by rintro hB r O' ⟨m, n, i, _, _, _, rfl, rfl⟩; exact ⟨rfl, hO.q hB _⟩) ?_
  rintro r O' ⟨m, n, i, hm, hf, hc, rfl, rfl⟩
  refine awps_stp0 rfl rfl (by decide) (stp_binI rfl rfl rfl rfl) ?_; refine awps_stp0 rfl rfl (by decide) (stp_move (.inr rfl) rfl) ?_; refine awps_nil ?_; refine thenQ_nil ?_; refine awp_ret ?_
  -- leaf 
  change retQ _ _ _ _ _ _ _
  refine retO (.inl rfl) (resAs_tmp rfl resAs_nil) SubO.left rfl (hO.self _) (fun l hl => by rw [hO.dom]; exact (hL l).1 hl) ?_; refine ⟨m, n, _, hm, hf, ?_, rfl, rfl⟩
  rcases hc with ⟨h1, h2, rfl, h3⟩ | ⟨h1, rfl, h3⟩
  · exact .inl ⟨h1, h2, by simp, h3⟩
  · exact .inr ⟨h1, by simp, h3⟩
theorem badC_ok (q : Cl) (hc : q.wf) : PF 132 [clA q] (bv (!(okC q))) := by
  refine AC_intro Tryz.func132 rfl Tryz.ntmps132 (Nat.le_of_ble_eq_true rfl) fun c hL hQ hDD => ?_; refine awp_seq ?_; refine awp_region ?_; refine awps_stp1 rfl rfl (by decide) (stp_box 1 rfl rfl rfl) rfl ?_; refine awps_stp0 rfl rfl (by decide) (stp_move (.inr rfl) rfl) ?_; refine awps_nil ?_; refine thenQ_nil ?_; refine awp_seq ?_; refine awp_region ?_; refine awps_stp0 rfl rfl (by decide) (stp_load_all rfl tf_api_Clause rfl rfl rfl rfl) ?_
  refine awps_call (avs := [_]) true rfl rfl rfl (by decide) en_check_Clause rfl rfl (checkClause_ok q hc) rfl rfl ?_; refine awps_stp0 rfl rfl (by decide) (stp_binI rfl rfl rfl rfl) ?_; refine awps_stp0 rfl rfl (by decide) (stp_move (.inr rfl) rfl) ?_; refine awps_nil ?_; refine thenQ_nil ?_; refine awp_ret ?_
  -- leaf 
  refine ret0 (noL hL) (.inl rfl) (resAs_tmp rfl (resAs_nil)) ?_ ?_
  · rfl
  exact ⟨bool_w (by first | rfl | (rw [okC, ← decide_not]; done) | (simp [okC]; done)), rfl⟩
theorem tmDs_len4 (l : List Tm) : ∀ d ∈ tmDs l, d.length = 4 := fun d hd => by
  rw [tmDs_map] at hd; obtain ⟨t, _, rfl⟩ := List.mem_map.1 hd; rfl
theorem All_ok (cs : List Cl) (hcl : cs.length ≤ 10000000) (hw : ∀ c ∈ cs, c.wf) (hB : ∀ k, Kn k → (derL cs k).length ≤ 10000000) :
    PF 68 [.dat false 6 (clDs cs)] (.tup [.dat false 4 (tmDs (allC cs).1), iv (allC cs).2]) := by
  have hlc := clDs_length cs
  refine AC_leP (Post := fun r O => (((allC cs).1 = [] ∧ r = .tup [.imm (.slice none 0 0), iv (allC cs).2]) ∨ r = .tup [.dat false 4 (tmDs (allC cs).1), iv (allC cs).2]) ∧ O = []) ?_ (fun r O' h => by
    obtain ⟨⟨h1, rfl⟩ | rfl, rfl⟩ := h
    · exact ⟨_, .tup (.cons (.nil (f := false) (k := 4)) (.cons .refl .nil)), by rw [h1]; rfl, rfl⟩
    · exact ⟨_, .refl, rfl, rfl⟩)
  refine AC_intro Tryz.func68 rfl Tryz.ntmps68 (Nat.le_of_ble_eq_true rfl) fun c hL hQ hDD => ?_; refine awp_seq ?_; refine awp_region ?_; refine awps_stp0 rfl rfl (by decide) (stp_move (.inr rfl) rfl) ?_; refine awps_stp0 rfl rfl (by decide) (stp_move (.inr rfl) rfl) ?_; refine awps_nil ?_; refine thenQ_nil ?_; refine awp_seq ?_; refine awp_seq ?_; refine awp_region ?_; refine awps_stp0 rfl rfl (by decide) (stp_move (.inl rfl) rfl) ?_
  refine awps_callP (avs := [_, _]) false rfl rfl rfl (by decide) en_slices_ContainsFunc_api_Clause_api_Clause rfl rfl (ContainsFunc_cl_ok false cs _ rfl (by omega) _ [] en_known_bad (fun _ => []) (fun k => match cs[k]? with | some t => !(okC t) | none => false) ⟨fun k l => rfl, fun k => passO .nil, fun k => rfl, fun k => rfl, fun k => rfl, fun k => rfl, fun h => by cases h⟩ (fun k g hg _ => by rw [hg]; exact badC_ok g (hw g (List.mem_of_getElem? hg)))) (rfl) (passO .nil) (by rintro r O' ⟨m, n, b, _, _, _, _, rfl⟩; exact frB rfl) (by rintro h; cases h) ?_
  rintro r O' ⟨m, n, b, hm1, hf1, hc1, rfl, rfl⟩
  have hb1 := cont_all (l := cs) (p := okC) (fun j x hx => by simp only [hx]) hf1 hc1
  refine awps_nil ?_; refine thenQ_nil ?_; refine awp_cond rfl (fun c0 => ?_) (fun c0 => ?_)
  · try simp only [↓cqA, cqB] at c0
    have hbad : cs.all okC = false := by rw [hb1] at c0; simpa using c0
    refine awp_seq ?_; refine awp_region ?_; refine awps_stp0 rfl rfl (by decide) (stp_move (.inr rfl) rfl) ?_; refine awps_stp0 rfl rfl (by decide) (stp_move (.inr rfl) rfl) ?_; refine awps_nil ?_; refine thenQ_nil ?_; refine awp_ret ?_; refine thenQ_ret (?_)
    -- leaf 0T
    refine ret0 (noL hL) (.inl rfl) (resAs_tmp rfl (resAs_tmp rfl (resAs_nil))) ?_ ?_
    · rfl
    exact ⟨.inl ⟨by rw [allC, hbad]; rfl, by rw [allC, hbad]; rfl⟩, rfl⟩
  try simp only [↓cqA, cqB] at c0
  have hgood : cs.all okC = true := by rw [hb1] at c0; simpa using c0
  have hc : ∀ c ∈ cs, clauseE c = 0 := fun c hm => by have := List.all_eq_true.1 hgood c hm; simpa [okC] using this
  have hall : allC cs = allR cs 61 [] := by rw [allC, if_pos hgood]
  refine awp_skip ?_; refine thenQ_nil ?_; refine awp_seq ?_; refine awp_region ?_; refine awps_stp0 rfl rfl (by decide) (stp_move (.inr rfl) rfl) ?_; refine awps_nil ?_; refine thenQ_nil ?_; refine awp_block ?_; refine awp_whileE (α := List Tm) (61) (fun k a => Kn a ∧ k ≤ a.length ∧ allC cs = allR cs (61 - k) a) (fun k a => ⟨[(0, .dat false 6 (clDs cs)), (4, .row 4)], [(4, .rowd 35 4 false (tmDs a))]⟩) ([]) (⟨Kn.nil, by simp, hall⟩) ?_ (fun k a hk hp => ?_)
  · exact Sub.trans (sub_nil_row (t := 4) (l := 4) 35 4 false rfl rfl) (sub_re (SubT.cons (lk_eq rfl (by first | rfl | simp)) (SubT.cons (lk_eq rfl (by first | rfl | simp)) (SubT.nil))) (SubO.cons (ok_eq rfl (by rfl)) (SubO.nil)) rfl rfl (noL' (noL hL) _))
  obtain ⟨hkn, hka, hkr⟩ := hp
  have hal := tmDs_length a
  have han := tmDs_length (nextL cs a)
  have hk60 := hkn.len
  have hnl := nextL_len hw hc hkn.atk
  have hbd := hB a hkn
  obtain ⟨hgp, hga, hgn⟩ := grow_perm hw hc hkn
  have hru : allR cs (61 - k) a = if (nextL cs a).length = 0 then (a, 0) else if 60 < a.length + (nextL cs a).length then ([], 2) else allR cs (61 - (k + 1)) (srtU (a ++ nextL cs a)) := by
    rw [show 61 - k = (61 - (k + 1)) + 1 by omega]; rfl
  have hap : tmDs a ++ tmDs (nextL cs a) = tmDs (a ++ nextL cs a) := by rw [tmDs_map, tmDs_map, tmDs_map, List.map_append]
  have hapl := tmDs_length (a ++ nextL cs a)
  rw [List.length_append] at hapl
  have hst := AC_rnE 1 4 (stepR_ok cs hcl hw hc a hkn.atk (by omega) hbd)
  refine awp_block ?_; refine awp_seq ?_; refine awp_region ?_; refine awps_stp0 rfl rfl (by decide) (stp_move (.inl rfl) rfl) ?_; refine awps_stp0 rfl rfl (by decide) (stp_move (.inl rfl) rfl) ?_; refine awps_callP (avs := [_, _]) false rfl rfl rfl (by decide) en_known_step rfl rfl (hst) (rfl) (passO (.cons rfl trivial rfl .nil)) (by rintro r O' ⟨_, rfl⟩; exact frB rfl) (by rintro h; cases h) ?_
  rintro r O' ⟨rfl, rfl⟩
  refine awps_stp0 rfl rfl (by decide) (stp_move (.inr rfl) rfl) ?_; refine awps_nil ?_; refine thenQ_nil ?_; refine awp_seq ?_; refine awp_seq ?_; refine awp_region ?_; refine awps_stp0 rfl rfl (by decide) (stp_move (.inl rfl) rfl) ?_; refine awps_stp0 rfl rfl (by decide) (stp_len_dat rfl sl_S_api_Term rfl) ?_; refine awps_stp0 rfl rfl (by decide) (stp_binI rfl rfl rfl rfl) ?_; refine awps_nil ?_; refine thenQ_nil ?_; refine awp_cond rfl (fun c1 => ?_) (fun c1 => ?_)
  · try simp only [↓cqA, cqB] at c1
    refine awp_sub (sub_freeze (l := 4) rfl (by decide) (noL hL _) rfl rfl) ?_; refine awp_seq ?_; refine awp_region ?_; refine awps_stp0 rfl rfl (by decide) (stp_move (.inl rfl) rfl) ?_; refine awps_stp0 rfl rfl (by decide) (stp_move (.inr rfl) rfl) ?_; refine awps_stp0 rfl rfl (by decide) (stp_move (.inr rfl) rfl) ?_; refine awps_nil ?_; refine thenQ_nil ?_; refine awp_ret ?_; refine thenQ_ret (inQ_ret (thenQ_ret (inQ_ret (?_))))
    -- leaf 0F1T
    refine ret0 (noL hL) (.inl rfl) (resAs_tmp rfl (resAs_tmp rfl (resAs_nil))) ?_ ?_
    · rfl
    exact ⟨.inr (by rw [hkr, hru, if_pos (by omega)]; rfl), rfl⟩
  try simp only [↓cqA, cqB] at c1
  refine awp_skip ?_; refine thenQ_nil ?_; refine awp_seq ?_; refine awp_region ?_; refine awps_stp0 rfl rfl (by decide) (stp_move (.inl rfl) rfl) ?_; refine awps_stp0 rfl rfl (by decide) (stp_move (.inl rfl) rfl) ?_; refine awps_append_src 17 ta_S_api_Term rfl rfl (by decide) rfl rfl rfl (src_dat (tmDs_len4 _) rfl) rfl (tmDs_len4 _) (noL hL _) rfl (by omega) rfl ?_; refine awps_stp0 rfl rfl (by decide) (stp_move (.inr rfl) rfl) ?_; refine awps_nil ?_; refine thenQ_nil ?_; refine awp_seq ?_; refine awp_seq ?_
  rw [hap]
  refine awp_region ?_; refine awps_stp0 rfl rfl (by decide) (stp_move (.inl rfl) rfl) ?_; refine awps_stp0 rfl rfl (by decide) (stp_len_rowd rfl sl_S_api_Term rfl rfl) ?_; refine awps_stp0 rfl rfl (by decide) (stp_binI rfl rfl rfl rfl) ?_; refine awps_nil ?_; refine thenQ_nil ?_; refine awp_cond rfl (fun c2 => ?_) (fun c2 => ?_)
  · try simp only [↓cqA, cqB] at c2
    refine awp_seq ?_; refine awp_region ?_; refine awps_stp0 rfl rfl (by decide) (stp_move (.inr rfl) rfl) ?_; refine awps_stp0 rfl rfl (by decide) (stp_move (.inr rfl) rfl) ?_; refine awps_nil ?_; refine thenQ_nil ?_; refine awp_ret ?_; refine thenQ_ret (inQ_ret (thenQ_ret (inQ_ret (?_))))
    -- leaf 0F1F2T
    refine ret0 (noL hL) (.inl rfl) (resAs_tmp rfl (resAs_tmp rfl (resAs_nil))) ?_ ?_
    · rfl
    exact ⟨.inl ⟨by rw [hkr, hru, if_neg (by omega), if_pos (by omega)], by rw [hkr, hru, if_neg (by omega), if_pos (by omega)]; rfl⟩, rfl⟩
  try simp only [↓cqA, cqB] at c2
  refine awp_skip ?_; refine thenQ_nil ?_; refine awp_region ?_; refine awps_stp0 rfl rfl (by decide) (stp_move (.inl rfl) rfl) ?_; refine awps_sort Tryz.srtT (k := 4) (by decide) tf_api_Term (sf := 134) rfl en_term_Compare en_slices_SortFunc_api_Term_api_Term (toD := tmD) (es := a ++ nextL cs a) (cf := cmpT 5) rfl rfl (by decide) rfl rfl rfl (by rw [← tmDs_map]; rfl) (by rw [List.length_append]; omega) (fun x hx y hy => ?_) (fun x _ => by rw [(TP.tm 5).self]; decide) (fun x _ y _ z _ h1 h2 => (TP.tm 5).lt1 h1 (by omega)) (fun x _ y _ z _ h1 h2 h3 => ?_) (fun es' hp2 hs2 => ?_)
  · exact Compare_ok 5 x y (may_dle (hga x hx).may) (hga x hx).wf (hga y hy).wf
  · have h4 := (TP.tm 5).anti x y
    have h5 := (TP.tm 5).anti y z
    have h6 := (TP.tm 5).anti x z
    have h7 := (TP.tm 5).tr z y x (by omega) (by omega)
    omega
  obtain rfl : es' = srtU (a ++ nextL cs a) := perm_ss (fun x hx => may_dle (hga x hx).may) hgn hp2 hs2
  refine awps_nil ?_; refine inQ_nil ?_; refine thenQ_nil ?_; refine ⟨?_, srtU (a ++ nextL cs a), ?_, ?_⟩
  · skip
    omega
  · skip
    refine ⟨hkn.grow hw hc (by omega), ?_, ?_⟩
    · rw [hgp.length_eq, List.length_append]; omega
    · rw [hkr, hru, if_neg (by omega), if_neg (by omega)]
  exact Sub.trans (sub_rename 17 4 (noL hL _) (noL hL _)) (sub_re (SubT.cons (lk_eq rfl (by first | rfl | simp)) (SubT.cons (lk_eq rfl (by first | rfl | simp)) (SubT.nil))) (SubO.cons (ok_eq rfl (by rw [tmDs_map]; rfl)) (SubO.nil)) rfl rfl (noL' (noL hL) _))
end Go.Proofs.YtdecgkhdbfgldaaGreat

set_option linter.unusedVariables false
set_option linter.unusedSimpArgs false
namespace Go.Proofs.YtdecgkhdbfgldaaGreat
open Go
def fitL2 (f : List Bd → Tm → Tm → List Bd × Int) : List (Tm × Tm) → List Bd → List Bd × Int
  | [], l => (l, 0)
  | p :: ps, l => if (f l p.1 p.2).2 ≠ 0 then ([], (f l p.1 p.2).2) else fitL2 f ps (f l p.1 p.2).1
def fitR2 : Nat → List Bd → Tm → Tm → List Bd × Int
  | 0, _, _, _ => ([], 3)
  | d + 1, l, a, b => if a.kind = 1 then (if hasB l a.name = true then (if cmpT 5 (lookT l a.name) b = 0 then (l, 0) else ([], 3)) else (standL l a.name b, standE l a.name b)) else if argsB a b = true then fitL2 (fitR2 d) (a.args.zip b.args) l else ([], 3)
theorem fitL_eq2 {d : Nat} (h : ∀ l a b, fitR d l a b = fitR2 d l a b) : ∀ (ps : List (Tm × Tm)) (l : List Bd), fitL d l ps = fitL2 (fitR2 d) ps l
  | [], l => by rw [fitL, fitL2]
  | p :: ps, l => by rw [fitL, fitL2, h, fitL_eq2 h ps]
theorem fitR_eq2 : ∀ (d : Nat) (l : List Bd) (a b : Tm), fitR d l a b = fitR2 d l a b
  | 0, l, a, b => by rw [fitR, fitR2]
  | d + 1, l, a, b => by rw [fitR, fitR2, fitL_eq2 (fitR_eq2 d)]
def seekL2 (gs : List Gd) (head : Tm) (k : List Tm) : List Tm → List Bd → List Tm
  | [], l => if gs.all (holdsC l) = true then [putT l head] else []
  | a :: bs, l => k.flatMap fun t => if (fitR2 5 l a t).2 = 0 then seekL2 gs head k bs (fitR2 5 l a t).1 else []
theorem seekL_eq2 (gs : List Gd) (head : Tm) (k : List Tm) : ∀ (bs : List Tm) (l : List Bd), seekL gs head k bs l = seekL2 gs head k bs l
  | [], l => rfl
  | a :: bs, l => by
    rw [seekL, seekL2]
    congr 1
    funext t
    rw [fitR_eq2, seekL_eq2 gs head k bs]
def derL2 (cs : List Cl) (k : List Tm) : List Tm := cs.flatMap fun c => seekL2 c.guards c.head k c.body []
theorem derL_eq2 (cs : List Cl) (k : List Tm) : derL cs k = derL2 cs k := by
  rw [derL, derL2]; congr 1; funext c; rw [seekL_eq2]
def newL2 (cs : List Cl) (k : List Tm) : List Tm := (derL2 cs k).filter fun t => !memK k t
def nextL2 (cs : List Cl) (k : List Tm) : List Tm := srtU (newL2 cs k)
theorem nextL_eq2 (cs : List Cl) (k : List Tm) : nextL cs k = nextL2 cs k := by rw [nextL, newL, derL_eq2]; rfl
def allR2 (cs : List Cl) : Nat → List Tm → List Tm × Int
  | 0, _ => ([], 2)
  | n + 1, k => (fun m => if m.length = 0 then (k, 0) else if 60 < k.length + m.length then ([], 2) else allR2 cs n (srtU (k ++ m))) (nextL2 cs k)
theorem allR_eq2 (cs : List Cl) : ∀ (n : Nat) (k : List Tm), allR cs n k = allR2 cs n k
  | 0, k => rfl
  | n + 1, k => by rw [allR, allR2, nextL_eq2, allR_eq2 cs n]
theorem flatMap_le {α β : Type} (f : α → List β) (n : Nat) : ∀ l : List α, (∀ x ∈ l, (f x).length ≤ n) → (l.flatMap f).length ≤ l.length * n
  | [], _ => by simp
  | x :: l, h => by
    have h1 := h x (by simp)
    have h2 := flatMap_le f n l (fun y hy => h y (by simp [hy]))
    rw [List.flatMap_cons, List.length_append, List.length_cons, Nat.add_mul]
    omega
theorem seekL_len (gs : List Gd) (head : Tm) (k : List Tm) : ∀ (bs : List Tm) (l : List Bd), (seekL gs head k bs l).length ≤ k.length ^ bs.length
  | [], l => by
    rw [seekL]; split <;> simp
  | a :: bs, l => by
    rw [seekL, List.length_cons, Nat.pow_succ, Nat.mul_comm]
    refine flatMap_le _ _ k fun t ht => ?_
    split
    · exact seekL_len gs head k bs _
    · simp
theorem derL_small {cs : List Cl} (hb : ∀ c ∈ cs, c.body.length ≤ 2) (hn : cs.length ≤ 200) {k : List Tm} (hk : Kn k) : (derL cs k).length ≤ 10000000 := by
  have : (derL cs k).length ≤ cs.length * 3600 := by
    refine flatMap_le _ _ cs fun q hq => Nat.le_trans (seekL_len q.guards q.head k q.body []) ?_
    have h1 := hb q hq
    have h2 := hk.len
    rcases (show q.body.length = 0 ∨ q.body.length = 1 ∨ q.body.length = 2 by omega) with e | e | e
    · rw [e]; simp
    · rw [e, Nat.pow_one]; omega
    · rw [e, Nat.pow_two]; exact Nat.le_trans (Nat.mul_le_mul h2 h2) (by decide)
  omega
theorem allC_of {cs : List Cl} (h : cs.all okC = true) {r : List Tm × Int} (hr : allR2 cs 61 [] = r) : allC cs = r := by rw [allC, if_pos h, allR_eq2, hr]
end Go.Proofs.YtdecgkhdbfgldaaGreat

set_option linter.unusedVariables false
set_option linter.unusedSimpArgs false
set_option maxRecDepth 8000
namespace Go.Proofs.YtdecgkhdbfgldaaGreat
open Go
theorem num11_ok (x : Int) : PF 69 [iv x] (iv x) := by
  refine AC_intro Tryz.func69 rfl Tryz.ntmps69 (Nat.le_of_ble_eq_true rfl) fun c hL hQ hDD => ?_; refine awp_seq ?_; refine awp_region ?_; refine awps_stp0 rfl rfl (by decide) (stp_move (.inr rfl) rfl) ?_; refine awps_nil ?_; refine thenQ_nil ?_; refine awp_seq ?_; refine awp_region ?_; refine awps_stp0 rfl rfl (by decide) (stp_move (.inl rfl) rfl) ?_; refine awps_stp0 rfl rfl (by decide) (stp_move (.inr rfl) rfl) ?_; refine awps_nil ?_; refine thenQ_nil ?_; refine awp_ret ?_
  -- leaf 
  refine ret0 (noL hL) (.inl rfl) (resAs_tmp rfl (resAs_nil)) ?_ ?_
  · rfl
  exact ⟨rfl, rfl⟩
theorem variable11_raw (s : ByteArray) : PF 67 [sv s] (.agg [iv 1, sv s, iv 0, .imm (.slice none 0 0)]) := by
  refine AC_intro Tryz.func67 rfl Tryz.ntmps67 (Nat.le_of_ble_eq_true rfl) fun c hL hQ hDD => ?_; refine awp_seq ?_; refine awp_region ?_; refine awps_stp1 rfl rfl (by decide) (stp_alloc 2 rfl zv_api_Term rfl) rfl ?_; refine awps_nil ?_; refine thenQ_nil ?_; refine awp_seq ?_; refine awp_region ?_; refine awps_stp0 rfl rfl (by decide) (stp_move (.inl rfl) rfl) ?_
  refine awps_stp0 rfl rfl (by decide) (stp_build rfl zv_api_Term rfl pl_api_Term rfl rfl) ?_; refine awps_store rfl rfl rfl tf_api_Term rfl rfl rfl rfl rfl rfl rfl rfl rfl ?_; refine awps_nil ?_; refine thenQ_nil ?_; refine awp_ret ?_
  -- leaf 
  refine ret0 (noL hL) (.inl rfl) (resAs_cell tf_api_Term rfl rfl rfl (resAs_nil)) ?_ ?_
  · rfl
  exact ⟨rfl, rfl⟩
theorem variable11_ok (s : ByteArray) : PF 67 [sv s] (.agg (lift false (tmD (varT s)))) := AC_leR (var_le false s) (variable11_raw s)
theorem number11_raw (x : Int) : PF 66 [iv x] (.agg [iv 2, sv ⟨#[]⟩, iv x, .imm (.slice none 0 0)]) := by
  refine AC_intro Tryz.func66 rfl Tryz.ntmps66 (Nat.le_of_ble_eq_true rfl) fun c hL hQ hDD => ?_; refine awp_seq ?_; refine awp_region ?_; refine awps_stp1 rfl rfl (by decide) (stp_alloc 2 rfl zv_api_Term rfl) rfl ?_; refine awps_nil ?_; refine thenQ_nil ?_; refine awp_seq ?_; refine awp_region ?_; refine awps_stp0 rfl rfl (by decide) (stp_move (.inl rfl) rfl) ?_
  refine awps_stp0 rfl rfl (by decide) (stp_build rfl zv_api_Term rfl pl_api_Term rfl rfl) ?_; refine awps_store rfl rfl rfl tf_api_Term rfl rfl rfl rfl rfl rfl rfl rfl rfl ?_; refine awps_nil ?_; refine thenQ_nil ?_; refine awp_ret ?_
  -- leaf 
  refine ret0 (noL hL) (.inl rfl) (resAs_cell tf_api_Term rfl rfl rfl (resAs_nil)) ?_ ?_
  · rfl
  exact ⟨rfl, rfl⟩
theorem number11_ok (x : Int) : PF 66 [iv x] (.agg (lift false (tmD (numT x)))) := AC_leR (num_le false x) (number11_raw x)
theorem atom11_ok (s : ByteArray) (ts : List Tm) (hts : ts.length ≤ 1000) : PF 65 [sv s, .dat false 4 (tmDs ts)] (.agg (lift false (tmD (nmT s ts)))) := by
  have hlen := tmDs_length ts
  have h0 : ([] : List (List D)).length = 0 := rfl
  have hd4 : ∀ d ∈ tmDs ts, d.length = 4 := tmDs_len4 ts
  refine AC_intro Tryz.func65 rfl Tryz.ntmps65 (Nat.le_of_ble_eq_true rfl) fun c hL hQ hDD => ?_; refine awp_seq ?_; refine awp_region ?_; refine awps_stp1 rfl rfl (by decide) (stp_alloc 4 rfl zv_api_Term rfl) rfl ?_; refine awps_nil ?_; refine thenQ_nil ?_; refine awp_seq ?_; refine awp_region ?_; refine awps_stp0 rfl rfl (by decide) (stp_move (.inl rfl) rfl) ?_
  refine awps_stp1 rfl rfl (by decide) (stp_buildSlice0 6 false rfl sl_S_api_Term zv_api_Term) rfl ?_; refine awps_stp0 rfl rfl (by decide) (stp_move (.inl rfl) rfl) ?_; refine awps_append_src 8 ta_S_api_Term rfl rfl (by decide) rfl rfl rfl (src_dat hd4 rfl) rfl hd4 (noL hL _) rfl (by omega) rfl ?_; refine awps_sub (sub_freeze (l := 8) rfl (by decide) (noL hL _) rfl rfl) ?_
  refine awps_stp0 rfl rfl (by decide) (stp_build rfl zv_api_Term rfl pl_api_Term rfl rfl) ?_; refine awps_store rfl rfl rfl tf_api_Term rfl rfl rfl rfl rfl rfl rfl rfl rfl ?_; refine awps_nil ?_; refine thenQ_nil ?_; refine awp_ret ?_
  -- leaf 
  refine ret0 (noL hL) (.inl rfl) (resAs_cell tf_api_Term rfl rfl rfl (resAs_nil)) ?_ ?_
  · rfl
  exact ⟨rfl, rfl⟩
def fTm (t : Tm) : Tm := nmT ⟨#[102]⟩ [t]
def gTm (t : Tm) : Tm := nmT ⟨#[103]⟩ [t]
def fct (i : Nat) : Cl := ⟨fTm (numT (i : Int)), [], []⟩
def fcts (n : Nat) : List Cl := (List.range n).map fct
def twc : Cl := ⟨gTm (varT sX), [fTm (varT sX)], []⟩
theorem fTm_w {t : Tm} (h : t.wf) : (fTm t).wf := nmT_w _ _ (by decide) (by simp) (all1 h)
theorem gTm_w {t : Tm} (h : t.wf) : (gTm t).wf := nmT_w _ _ (by decide) (by simp) (all1 h)
theorem wfs1 {a : Tm} (h : a.wf) : Tm.wfs [a] := wfs_of (all1 h)
theorem wfs2 {a b : Tm} (h : a.wf) (k : b.wf) : Tm.wfs [a, b] := wfs_of (all2 h k)
theorem cl_w {q : Tm} {b : List Tm} (h : q.wf) (hb : Tm.wfs b) (hl : b.length ≤ 100) : (Cl.mk q b []).wf := ⟨h, ⟨by simp only [lenOk]; omega, hb⟩, ⟨by simp only [lenOk]; simp, fun g hg => (by cases hg)⟩⟩
theorem fct_w (i : Nat) (h : i ≤ 1000000) : (fct i).wf := cl_w (fTm_w (numT_w _ (by omega))) trivial (by simp)
theorem twc_w : twc.wf := cl_w (gTm_w (varT_w _ (by decide))) (wfs1 (fTm_w (varT_w _ (by decide)))) (by simp [fTm])
def wkC : List Cl := [fct 1, twc]
theorem wkC_all : allC wkC = ([fTm (numT 1), gTm (numT 1)], 0) := allC_of (by decide +kernel) (by kernel_rfl)
theorem head_le (q : Tm) : Le (.agg ((lift false (tmD q)) ++ [.imm (.slice none 0 0), .imm (.slice none 0 0)])) (.agg (lift false (clD ⟨q, [], []⟩))) := .agg (.cons .refl (.cons .refl (.cons .refl (.cons .refl (.cons .nil (.cons .nil .nil))))))
theorem body_le (q : Tm) (b : List Tm) : Le (.agg ((lift false (tmD q)) ++ [.dat false 4 (tmDs b), .imm (.slice none 0 0)])) (.agg (lift false (clD ⟨q, b, []⟩))) := .agg (.cons .refl (.cons .refl (.cons .refl (.cons .refl (.cons .refl (.cons .nil .nil))))))
theorem wakes11_ok : PF 70 [] (bv true) := by
  have key := All_ok wkC (by decide) (fun q hq => by
    simp only [wkC, List.mem_cons, List.not_mem_nil, or_false] at hq
    rcases hq with rfl | rfl
    · exact fct_w 1 (by decide)
    · exact twc_w) (fun k hk => derL_small (fun q hq => by
    simp only [wkC, List.mem_cons, List.not_mem_nil, or_false] at hq
    rcases hq with rfl | rfl <;> simp [fct, twc]) (by decide) hk)
  rw [wkC_all] at key
  refine AC_intro Tryz.func70 rfl Tryz.ntmps70 (Nat.le_of_ble_eq_true rfl) fun c hL hQ hDD => ?_; refine awp_seq ?_; refine awp_region ?_; refine awps_stp0 rfl rfl (by decide) (stp_move (.inr rfl) rfl) ?_; refine awps_nil ?_; refine thenQ_nil ?_; refine awp_seq ?_; refine awp_region ?_; refine awps_stp0 rfl rfl (by decide) (stp_build rfl zv_api_Term rfl pl_api_Term rfl rfl) ?_
  refine awps_sub (sub_le 6 rfl (var_le false sX)) ?_; refine awps_stp1 rfl rfl (by decide) (stp_alloc 1 rfl zv_api_Term rfl) rfl ?_; refine awps_store rfl rfl rfl tf_api_Term rfl rfl rfl rfl rfl rfl rfl rfl rfl ?_; refine awps_nil ?_; refine thenQ_nil ?_; refine awp_seq ?_; refine awp_region ?_; refine awps_stp0 rfl rfl (by decide) (stp_build rfl zv_api_Term rfl pl_api_Term rfl rfl) ?_
  refine awps_sub (sub_le 7 rfl (num_le false 1)) ?_; refine awps_stp1 rfl rfl (by decide) (stp_alloc 2 rfl zv_api_Term rfl) rfl ?_; refine awps_store rfl rfl rfl tf_api_Term rfl rfl rfl rfl rfl rfl rfl rfl rfl ?_; refine awps_nil ?_; refine thenQ_nil ?_; refine awp_seq ?_; refine awp_region ?_; refine awps_stp0 rfl rfl (by decide) (stp_load_all rfl tf_api_Term rfl rfl rfl rfl) ?_
  refine awps_stp0 rfl rfl (by decide) (stp_buildSliceD false rfl sl_S_api_Term zv_api_Term rfl rfl (by decide) (by decide) (by decide) rfl rfl rfl rfl) ?_; refine awps_stp0 rfl rfl (by decide) (stp_build rfl zv_api_Term rfl pl_api_Term rfl rfl) ?_; refine awps_stp1 rfl rfl (by decide) (stp_alloc 3 rfl zv_api_Term rfl) rfl ?_; refine awps_store rfl rfl rfl tf_api_Term rfl rfl rfl rfl rfl rfl rfl rfl rfl ?_; refine awps_nil ?_; refine thenQ_nil ?_; refine awp_seq ?_; refine awp_region ?_; refine awps_stp0 rfl rfl (by decide) (stp_load_all rfl tf_api_Term rfl rfl rfl rfl) ?_
  refine awps_stp0 rfl rfl (by decide) (stp_build rfl zv_api_Clause rfl pl_api_Clause rfl rfl) ?_; refine awps_sub (sub_le 13 rfl (head_le (fTm (numT 1)))) ?_; refine awps_stp0 rfl rfl (by decide) (stp_load_all rfl tf_api_Term rfl rfl rfl rfl) ?_; refine awps_stp0 rfl rfl (by decide) (stp_buildSliceD false rfl sl_S_api_Term zv_api_Term rfl rfl (by decide) (by decide) (by decide) rfl rfl rfl rfl) ?_; refine awps_stp0 rfl rfl (by decide) (stp_build rfl zv_api_Term rfl pl_api_Term rfl rfl) ?_; refine awps_stp0 rfl rfl (by decide) (stp_load_all rfl tf_api_Term rfl rfl rfl rfl) ?_
  refine awps_stp0 rfl rfl (by decide) (stp_buildSliceD false rfl sl_S_api_Term zv_api_Term rfl rfl (by decide) (by decide) (by decide) rfl rfl rfl rfl) ?_; refine awps_stp0 rfl rfl (by decide) (stp_build rfl zv_api_Term rfl pl_api_Term rfl rfl) ?_; refine awps_stp0 rfl rfl (by decide) (stp_buildSliceD false rfl sl_S_api_Term zv_api_Term rfl rfl (by decide) (by decide) (by decide) rfl rfl rfl rfl) ?_; refine awps_stp0 rfl rfl (by decide) (stp_build rfl zv_api_Clause rfl pl_api_Clause rfl rfl) ?_; refine awps_sub (sub_le 21 rfl (body_le (gTm (varT sX)) [fTm (varT sX)])) ?_
  refine awps_stp0 rfl rfl (by decide) (stp_buildSliceD false rfl sl_S_api_Clause zv_api_Clause rfl rfl (by decide) (by decide) (by decide) rfl rfl rfl rfl) ?_; refine awps_call (avs := [_]) false rfl rfl rfl (by decide) en_known_All rfl rfl (key) rfl rfl ?_; refine awps_stp0 rfl rfl (by decide) (stp_move (.inl rfl) rfl) ?_; refine awps_stp0 rfl rfl (by decide) (stp_extract rfl rfl rfl) ?_
  refine awps_stp0 rfl rfl (by decide) (stp_extract rfl rfl rfl) ?_; refine awps_stp0 rfl rfl (by decide) (stp_move (.inr rfl) rfl) ?_; refine awps_stp0 rfl rfl (by decide) (stp_move (.inr rfl) rfl) ?_; refine awps_nil ?_; refine thenQ_nil ?_; refine awp_seq ?_; refine awp_region ?_; refine awps_stp0 rfl rfl (by decide) (stp_move (.inl rfl) rfl) ?_
  refine awps_call (avs := [_]) true rfl rfl rfl (by decide) en_almagestlaw11_num rfl rfl (num11_ok _) rfl rfl ?_; refine awps_stp0 rfl rfl (by decide) (stp_binI rfl rfl rfl rfl) ?_; refine awps_stp0 rfl rfl (by decide) (stp_move (.inl rfl) rfl) ?_; refine awps_split 29 rfl (fun g29 => ?_) (fun g29 => ?_)
  · try simp only [↓cqA, cqB] at g29
    refine awps_g0 rfl rfl rfl (by decide) rfl (by decide) (stp_move (.inl rfl) rfl) ?_; refine awps_g0 rfl rfl rfl (by decide) rfl (by decide) (stp_len_dat rfl sl_S_api_Term rfl) ?_; refine awps_g0 rfl rfl rfl (by decide) rfl (by decide) (stp_binI rfl rfl rfl rfl) ?_; refine awps_stp0 rfl rfl (by decide) (stp_pick rfl rfl rfl) ?_; refine awps_stp0 rfl rfl (by decide) (stp_move (.inr rfl) rfl) ?_; refine awps_nil ?_; refine thenQ_nil ?_; refine awp_ret ?_
    -- leaf g29T
    refine ret0 (noL hL) (.inl rfl) (resAs_tmp rfl (resAs_nil)) ?_ ?_
    · rfl
    first
    | exact ⟨rfl, rfl⟩
    | exact absurd trivial (by assumption)
    | exact absurd rfl (by assumption)
    | trace_state
  try simp only [↓cqA, cqB] at g29
  refine awps_gs rfl rfl rfl rfl (by decide) rfl (by decide) ?_; refine awps_gs rfl rfl rfl rfl (by decide) rfl (by decide) ?_; refine awps_gs rfl rfl rfl rfl (by decide) rfl (by decide) ?_; refine awps_stp0 rfl rfl (by decide) (stp_pick rfl rfl rfl) ?_; refine awps_stp0 rfl rfl (by decide) (stp_move (.inr rfl) rfl) ?_; refine awps_nil ?_; refine thenQ_nil ?_; refine awp_ret ?_
  -- leaf g29F
  refine ret0 (noL hL) (.inl rfl) (resAs_tmp rfl (resAs_nil)) ?_ ?_
  · rfl
  first
  | exact ⟨rfl, rfl⟩
  | exact absurd trivial (by assumption)
  | exact absurd rfl (by assumption)
  | trace_state
end Go.Proofs.YtdecgkhdbfgldaaGreat

set_option linter.unusedVariables false
set_option linter.unusedSimpArgs false
set_option maxRecDepth 8000
namespace Go.Proofs.YtdecgkhdbfgldaaGreat
open Go
def g2Tm (t u : Tm) : Tm := nmT ⟨#[103]⟩ [t, u]
def prs : Cl := ⟨g2Tm (varT sX) (varT sY), [fTm (varT sX), fTm (varT sY)], []⟩
def smc : Cl := ⟨g2Tm (varT sX) (varT sY), [fTm (varT sX), fTm (varT sY)], [⟨3, varT sX, varT sY⟩]⟩
def fTs (n : Nat) : List Tm := (List.range n).map fun i : Nat => fTm (numT (i : Int))
theorem allC_len {cs : List Cl} (h : cs.all okC = true) {n : Nat} (h1 : (allR2 cs 61 []).1.length = n) (h2 : (allR2 cs 61 []).2 = 0) : ∃ k, allC cs = (k, 0) ∧ k.length = n := by
  refine ⟨(allR2 cs 61 []).1, ?_, h1⟩
  rw [allC, if_pos h, allR_eq2, ← h2]
set_option maxRecDepth 100000 in
theorem mny_two : ∃ k, allC (fcts 29 ++ [twc]) = (k, 0) ∧ k.length = 58 := allC_len (by decide +kernel) (by decide +kernel) (by decide +kernel)
set_option maxRecDepth 100000 in
theorem mny_same : ∃ k, allC (fcts 29 ++ [smc]) = (k, 0) ∧ k.length = 58 := allC_len (by decide +kernel) (by decide +kernel) (by decide +kernel)
def gPs (i : Nat) : List Tm := (List.range 29).map fun j : Nat => g2Tm (numT (i : Int)) (numT (j : Int))
theorem fTs_kn : Kn (fTs 29) := by
  refine ⟨fun t ht => ?_, ?_, by simp [fTs]⟩
  · obtain ⟨i, hi, rfl⟩ := List.mem_map.1 ht
    have hi := List.mem_range.1 hi
    have h : mayT (fTm (numT (i : Int))) = true := by
      have : (List.range 29).all (fun i => mayT (fTm (numT (i : Int)))) = true := by decide +kernel
      exact List.all_eq_true.1 this i (List.mem_range.2 hi)
    refine ⟨fTm_w (numT_w _ (by omega)), h, ?_, rfl, fun u hu => by
      rw [List.mem_singleton.1 (show u ∈ [numT (i : Int)] from hu)]; rfl⟩
    intro y hy
    rcases (Tm.occ_iff _ _).1 hy with ⟨h1, _⟩ | ⟨u, hu, h2⟩
    · cases h1
    · rw [List.mem_singleton.1 (show u ∈ [numT (i : Int)] from hu)] at h2
      rcases (Tm.occ_iff _ _).1 h2 with ⟨h1, _⟩ | ⟨v, hv, _⟩
      · cases h1
      · cases hv
  · show (fTs 29).Pairwise fun a b => cmpT 5 a b < 0
    decide +kernel
theorem prs_next : 32 ≤ (nextL (fcts 29 ++ [prs]) (fTs 29)).length := by
  have hall : (fcts 29 ++ [prs]).all okC = true := by decide +kernel
  have hw : ∀ q ∈ fcts 29 ++ [prs], q.wf := fun q hq => by
    rcases List.mem_append.1 hq with h | h
    · obtain ⟨i, hi, rfl⟩ := List.mem_map.1 h
      exact fct_w i (by have := List.mem_range.1 hi; omega)
    · rw [List.mem_singleton.1 h]
      exact cl_w (nmT_w _ _ (by decide) (by simp) (all2 (varT_w _ (by decide)) (varT_w _ (by decide)))) (wfs2 (fTm_w (varT_w _ (by decide))) (fTm_w (varT_w _ (by decide)))) (by simp)
  have hc : ∀ q ∈ fcts 29 ++ [prs], clauseE q = 0 := fun q hq => by have := List.all_eq_true.1 hall q hq; simpa [okC] using this
  have hS : SS (gPs 0 ++ gPs 1) := by
    show (gPs 0 ++ gPs 1).Pairwise fun a b => cmpT 5 a b < 0
    decide +kernel
  have hk : ∀ x ∈ gPs 0 ++ gPs 1, memK (fTs 29) x = false := by
    have : (gPs 0 ++ gPs 1).all (fun x => !memK (fTs 29) x) = true := by decide +kernel
    intro x hx; simpa using List.all_eq_true.1 this x hx
  have h0 : ∀ i : Nat, i < 2 → (fitR2 5 [] (fTm (varT sX)) (fTm (numT (i : Int)))).2 = 0 := by decide +kernel
  have e0 : seekL2 [] prs.head (fTs 29) [fTm (varT sY)] (fitR2 5 [] (fTm (varT sX)) (fTm (numT ((0 : Nat) : Int)))).1 = gPs 0 := by kernel_rfl
  have e1 : seekL2 [] prs.head (fTs 29) [fTm (varT sY)] (fitR2 5 [] (fTm (varT sX)) (fTm (numT ((1 : Nat) : Int)))).1 = gPs 1 := by kernel_rfl
  have hd : ∀ i : Nat, i < 2 → ∀ x ∈ seekL2 [] prs.head (fTs 29) [fTm (varT sY)] (fitR2 5 [] (fTm (varT sX)) (fTm (numT (i : Int)))).1, x ∈ derL (fcts 29 ++ [prs]) (fTs 29) := fun i hi x hx => by
    rw [derL_eq2]
    refine List.mem_flatMap.2 ⟨prs, by simp, ?_⟩
    rw [show prs.body = [fTm (varT sX), fTm (varT sY)] from rfl, seekL2]
    refine List.mem_flatMap.2 ⟨fTm (numT (i : Int)), List.mem_map.2 ⟨i, List.mem_range.2 (by omega), rfl⟩, ?_⟩
    rw [if_pos (h0 i hi)]
    exact hx
  have hsub : ∀ x ∈ gPs 0 ++ gPs 1, x ∈ nextL (fcts 29 ++ [prs]) (fTs 29) := fun x hx => by
    refine (nextL_mem hw hc fTs_kn.atk).2 ⟨?_, fun h => ?_⟩
    · rcases List.mem_append.1 hx with h | h
      · exact hd 0 (by omega) x (by rw [e0]; exact h)
      · exact hd 1 (by omega) x (by rw [e1]; exact h)
    · have := (memK_iff fTs_kn.dl).2 h
      rw [hk x hx] at this; cases this
  have := hS.nodup.length_le_of_subset hsub
  have h58 : (gPs 0 ++ gPs 1).length = 58 := by simp [gPs]
  omega
theorem mny_pairs : allC (fcts 29 ++ [prs]) = ([], 2) := by
  have hall : (fcts 29 ++ [prs]).all okC = true := by decide +kernel
  have h1 : nextL (fcts 29 ++ [prs]) [] = fTs 29 := by rw [nextL_eq2]; kernel_rfl
  have h2 : srtU ([] ++ fTs 29) = fTs 29 := by kernel_rfl
  have h3 : (fTs 29).length = 29 := by simp [fTs]
  have h4 := prs_next
  rw [allC, if_pos hall, allR, h1, if_neg (by omega), if_neg (by rw [h3]; simp), h2, allR, if_neg (by omega), if_pos (by omega)]
theorem clDs_len6 (l : List Cl) : ∀ d ∈ clDs l, d.length = 6 := fun d hd => by
  obtain ⟨t, _, rfl⟩ := List.mem_map.1 hd; rfl
theorem fcts_snoc (k : Nat) : fcts (k + 1) = fcts k ++ [fct k] := by simp [fcts, List.range_succ]
theorem clDs_app (a b : List Cl) : clDs (a ++ b) = clDs a ++ clDs b := by simp [clDs]
theorem prs_w : prs.wf := cl_w (nmT_w _ _ (by decide) (by simp) (all2 (varT_w _ (by decide)) (varT_w _ (by decide)))) (wfs2 (fTm_w (varT_w _ (by decide))) (fTm_w (varT_w _ (by decide)))) (by simp)
theorem smc_w : smc.wf := ⟨prs_w.1, prs_w.2.1, ⟨by simp only [lenOk, smc]; simp, fun g hg => by
  rw [List.mem_singleton.1 (show g ∈ [(⟨3, varT sX, varT sY⟩ : Gd)] from hg)]
  exact ⟨by simp only [i64]; decide, varT_w _ (by decide), varT_w _ (by decide)⟩⟩⟩
theorem mny_key (q : Cl) (hq : q.wf) (hb : q.body.length ≤ 2) : PF 68 [.dat false 6 (clDs (fcts 29) ++ [clD q])] (.tup [.dat false 4 (tmDs (allC (fcts 29 ++ [q])).1), iv (allC (fcts 29 ++ [q])).2]) := by
  have h := All_ok (fcts 29 ++ [q]) (by simp [fcts]) (fun x hx => by
    rcases List.mem_append.1 hx with h | h
    · obtain ⟨i, hi, rfl⟩ := List.mem_map.1 h
      exact fct_w i (by have := List.mem_range.1 hi; omega)
    · rw [List.mem_singleton.1 h]; exact hq) (fun k hk => derL_small (fun x hx => by
    rcases List.mem_append.1 hx with h | h
    · obtain ⟨i, hi, rfl⟩ := List.mem_map.1 h
      simp [fct]
    · rw [List.mem_singleton.1 h]; exact hb) (by simp [fcts]) hk)
  rw [clDs_app] at h
  exact h
theorem guards_le (q : Tm) (b : List Tm) (g : List Gd) : Le (.agg ((lift false (tmD q)) ++ [.dat false 4 (tmDs b), .dat false 9 (gdDs g)])) (.agg (lift false (clD ⟨q, b, g⟩))) := .agg (.cons .refl (.cons .refl (.cons .refl (.cons .refl (.cons .refl (.cons .refl .nil))))))
theorem KnownMany_ok (p : Ask11) (hpw : p.wf) : PF 13 [.agg (lift false (a11D p))] (bv true) := by
  obtain ⟨K1, hK1, hl1⟩ := mny_two
  obtain ⟨K3, hK3, hl3⟩ := mny_same
  have key1 := mny_key twc twc_w (by simp [twc])
  have key2 := mny_key prs prs_w (by simp [prs])
  have key3 := mny_key smc smc_w (by simp [smc])
  rw [hK1] at key1
  rw [mny_pairs] at key2
  rw [hK3] at key3
  have hd1 := tmDs_length K1
  have hd3 := tmDs_length K3
  have hdc := clDs_length p.C
  have h29 : (clDs (fcts 29)).length = 29 := by simp [clDs, fcts]
  have h6 := clDs_len6 (fcts 29)
  have h61 : ∀ q : Cl, ∀ d ∈ [clD q], d.length = 6 := fun q d hd => by rw [List.mem_singleton.1 hd]; rfl
  refine AC_intro Tryz.func13 rfl Tryz.ntmps13 (Nat.le_of_ble_eq_true rfl) fun c hL hQ hDD => ?_; refine awp_seq ?_; refine awp_region ?_; refine awps_stp1 rfl rfl (by decide) (stp_box 1 rfl rfl rfl) rfl ?_; refine awps_stp0 rfl rfl (by decide) (stp_move (.inr rfl) rfl) ?_; refine awps_nil ?_; refine thenQ_nil ?_; refine awp_seq ?_; refine awp_region ?_
  refine awps_stp0 rfl rfl (by decide) (stp_move (.inr rfl) rfl) ?_; refine awps_nil ?_; refine thenQ_nil ?_; refine awp_seq ?_; refine awp_seq ?_; refine awp_region ?_; refine awps_stp0 rfl rfl (by decide) (stp_move (.inr rfl) rfl) ?_; refine awps_nil ?_; refine thenQ_nil ?_; refine awp_block ?_; refine awp_while (29) (fun k => k ≤ 29) (fun k => ⟨[(1, .ptr 1 0), (3, .row 3), (4, iv (k : Int))], [(1, .box (lift false (a11D p))), (3, .rowd 106 6 false (clDs (fcts k)))]⟩) (by omega) ?_ (fun k hk hp => ?_)
  · exact Sub.trans (sub_nil_row (t := 3) (l := 3) 106 6 false rfl rfl) (sub_re (SubT.cons (lk_eq rfl (by first | rfl | simp)) (SubT.cons (lk_eq rfl (by first | rfl | simp)) (SubT.cons (lk_eq rfl (by first | rfl | simp)) (SubT.nil)))) (SubO.cons (ok_eq rfl (by rfl)) (SubO.cons (ok_eq rfl (by rfl)) (SubO.nil))) rfl rfl (noL' (noL hL) _))
  have hkl : (clDs (fcts k)).length = k := by simp [clDs, fcts]
  refine awp_seq ?_; refine awp_seq ?_; refine awp_region ?_; refine awps_stp0 rfl rfl (by decide) (stp_move (.inl rfl) rfl) ?_; refine awps_stp0 rfl rfl (by decide) (stp_binI rfl rfl rfl rfl) ?_; refine awps_nil ?_; refine thenQ_nil ?_; refine awp_cond rfl (fun c0 => ?_) (fun c0 => ?_)
  · try simp only [↓cqA, cqB] at c0
    refine awp_skip ?_; refine thenQ_nil ?_; refine awp_seq ?_; refine awp_block ?_; refine awp_region ?_; refine awps_stp0 rfl rfl (by decide) (stp_move (.inl rfl) rfl) ?_; refine awps_stp0 rfl rfl (by decide) (stp_move (.inl rfl) rfl) ?_; refine awps_call (avs := [_]) false rfl rfl rfl (by decide) en_almagestlaw11_number rfl rfl (number11_ok (k : Int)) rfl rfl ?_
    refine awps_stp0 rfl rfl (by decide) (stp_buildSliceD false rfl sl_S_api_Term zv_api_Term rfl rfl (by decide) (by decide) (by decide) rfl rfl rfl rfl) ?_; refine awps_call (avs := [_, _]) false rfl rfl rfl (by decide) en_almagestlaw11_atom rfl rfl (atom11_ok ⟨#[102]⟩ [numT (k : Int)] (by simp)) rfl rfl ?_
    refine awps_stp0 rfl rfl (by decide) (stp_build rfl zv_api_Clause rfl pl_api_Clause rfl rfl) ?_; refine awps_sub (sub_le 22 rfl (head_le (fTm (numT (k : Int))))) ?_; refine awps_stp0 rfl rfl (by decide) (stp_buildSliceD false rfl sl_S_api_Clause zv_api_Clause rfl rfl (by decide) (by decide) (by decide) rfl rfl rfl rfl) ?_
    refine awps_append_src 24 ta_S_api_Clause rfl rfl (by decide) rfl rfl rfl (src_dat (es := [clD (fct k)]) (h61 (fct k)) rfl) rfl (h61 (fct k)) (noL hL _) rfl (by rw [hkl]; simp; omega) rfl ?_; refine awps_stp0 rfl rfl (by decide) (stp_move (.inr rfl) rfl) ?_; refine awps_nil ?_; refine inQ_nil ?_; refine thenQ_nil ?_; refine awp_region ?_
    refine awps_stp0 rfl rfl (by decide) (stp_move (.inl rfl) rfl) ?_; refine awps_stp0 rfl rfl (by decide) (stp_add rfl rfl rfl (by omega)) ?_; refine awps_stp0 rfl rfl (by decide) (stp_move (.inr rfl) rfl) ?_; refine awps_nil ?_; refine thenQ_nil ?_; refine ⟨?_, ?_, ?_⟩
    · skip
      omega
    · skip
      omega
    exact Sub.trans (sub_rename 24 3 (noL hL _) (noL hL _)) (sub_re (SubT.cons (lk_eq rfl (by first | rfl | simp)) (SubT.cons (lk_eq rfl (by first | rfl | simp)) (SubT.cons (lk_eq rfl (by first | rfl | simp)) (SubT.nil)))) (SubO.cons (ok_eq rfl (by rfl)) (SubO.cons (ok_eq rfl (by rw [fcts_snoc, clDs_app]; rfl)) (SubO.nil))) rfl rfl (noL' (noL hL) _))
  try simp only [↓cqA, cqB] at c0
  refine awp_exit ?_; refine thenQ_exit (thenQ_exit (inQ_hit ?_)); refine thenQ_nil ?_; refine awp_seq ?_
  obtain rfl : k = 29 := by omega
  refine awp_sub (sub_freeze (l := 3) rfl (by decide) (noL hL _) rfl rfl) ?_; refine awp_region ?_; refine awps_call (avs := [_]) false rfl rfl rfl (by decide) en_almagestlaw11_variable rfl rfl (variable11_ok sX) rfl rfl ?_; refine awps_stp0 rfl rfl (by decide) (stp_buildSliceD false rfl sl_S_api_Term zv_api_Term rfl rfl (by decide) (by decide) (by decide) rfl rfl rfl rfl) ?_
  refine awps_call (avs := [_, _]) false rfl rfl rfl (by decide) en_almagestlaw11_atom rfl rfl (atom11_ok ⟨#[103]⟩ [varT sX] (by simp)) rfl rfl ?_; refine awps_call (avs := [_]) false rfl rfl rfl (by decide) en_almagestlaw11_variable rfl rfl (variable11_ok sX) rfl rfl ?_; refine awps_stp0 rfl rfl (by decide) (stp_buildSliceD false rfl sl_S_api_Term zv_api_Term rfl rfl (by decide) (by decide) (by decide) rfl rfl rfl rfl) ?_; refine awps_call (avs := [_, _]) false rfl rfl rfl (by decide) en_almagestlaw11_atom rfl rfl (atom11_ok ⟨#[102]⟩ [varT sX] (by simp)) rfl rfl ?_
  refine awps_stp0 rfl rfl (by decide) (stp_buildSliceD false rfl sl_S_api_Term zv_api_Term rfl rfl (by decide) (by decide) (by decide) rfl rfl rfl rfl) ?_; refine awps_stp0 rfl rfl (by decide) (stp_build rfl zv_api_Clause rfl pl_api_Clause rfl rfl) ?_; refine awps_sub (sub_le 32 rfl (body_le (gTm (varT sX)) [fTm (varT sX)])) ?_
  refine awps_stp1 rfl rfl (by decide) (stp_alloc 5 rfl zv_api_Clause rfl) rfl ?_; refine awps_store rfl rfl rfl tf_api_Clause rfl rfl rfl rfl rfl rfl rfl rfl rfl ?_; refine awps_nil ?_; refine thenQ_nil ?_; refine awp_seq ?_; refine awp_drawG 11 mixed rfl rfl rfl rfl ?_; refine MGo_c1 rfl (by decide) (.run rfl (stp_buildSlice0 34 false rfl sl_S_api_Clause zv_api_Clause)) ?_; refine MGo_c0 rfl (by decide) (.run rfl (stp_move (.inl rfl) rfl)) ?_; refine MGo_u rfl rfl (by decide) (stpU_appendd 36 ta_S_api_Clause rfl rfl rfl rfl rfl (noL hL _) (h6) (by simp [h29]) rfl) ?_
  refine MGo_c0 rfl (by decide) (.run rfl (stp_load_all rfl tf_api_Clause rfl rfl rfl rfl)) ?_; refine MGo_c0 rfl (by decide) (.run rfl (stp_buildSliceD false rfl sl_S_api_Clause zv_api_Clause rfl rfl (by decide) (by decide) (by decide) rfl rfl rfl rfl)) ?_; refine MGo_u rfl rfl (by decide) (stpU_appenddF (news := [clD twc]) 39 ta_S_api_Clause rfl rfl (noL hL _) rfl rfl rfl rfl rfl (noL hL _) (h61 twc) (by simp [h29]) rfl) ?_
  refine MGo_c0 rfl (by decide) (.run rfl (stp_call (avs := [_]) false rfl en_known_All rfl rfl (key1) (fun _ => rfl) rfl)) ?_; refine MGo_c0 rfl (by decide) (.run rfl (stp_move (.inl rfl) rfl)) ?_; refine MGo_c0 rfl (by decide) (.run rfl (stp_extract rfl rfl rfl)) ?_; refine MGo_c0 rfl (by decide) (.run rfl (stp_extract rfl rfl rfl)) ?_
  refine MGo_c0 rfl (by decide) (.run rfl (stp_move (.inr rfl) rfl)) ?_; refine MGo_nil ⟨rfl, rfl, ?_⟩; refine awps_stp0 rfl rfl (by decide) (stp_move (.inr rfl) rfl) ?_; refine awps_nil ?_; refine thenQ_nil ?_; refine awp_seq ?_; refine awp_seq ?_; refine awp_region ?_; refine awps_stp0 rfl rfl (by decide) (stp_move (.inl rfl) rfl) ?_
  refine awps_call (avs := [_]) true rfl rfl rfl (by decide) en_almagestlaw11_num rfl rfl (num11_ok _) rfl rfl ?_; refine awps_stp0 rfl rfl (by decide) (stp_binI rfl rfl rfl rfl) ?_; refine awps_stp0 rfl rfl (by decide) (stp_move (.inl rfl) rfl) ?_; refine awps_split 46 rfl (fun g46 => ?_) (fun g46 => ?_)
  · try simp only [↓cqA, cqB] at g46
    refine awps_gs rfl rfl rfl rfl (by decide) rfl (by decide) ?_; refine awps_gs rfl rfl rfl rfl (by decide) rfl (by decide) ?_; refine awps_gs rfl rfl rfl rfl (by decide) rfl (by decide) ?_; refine awps_stp0 rfl rfl (by decide) (stp_pick rfl rfl rfl) ?_; refine awps_nil ?_; refine thenQ_nil ?_; refine awp_condT rfl ?_; refine awp_seq ?_; refine awp_region ?_; refine awps_stp0 rfl rfl (by decide) (stp_move (.inr rfl) rfl) ?_; refine awps_nil ?_; refine thenQ_nil ?_; refine awp_ret ?_; refine thenQ_ret (?_)
    -- leaf 0Fg46T
    refine ret0 (noL hL) (.inl rfl) (resAs_tmp rfl (resAs_nil)) ?_ ?_
    · rfl
    first
    | exact ⟨rfl, rfl⟩
    | exact absurd trivial (by assumption)
    | exact absurd rfl (by assumption)
    | (exfalso; omega)
    | trace_state
  try simp only [↓cqA, cqB] at g46
  refine awps_g0 rfl rfl rfl (by decide) rfl (by decide) (stp_move (.inl rfl) rfl) ?_; refine awps_g0 rfl rfl rfl (by decide) rfl (by decide) (stp_len_dat rfl sl_S_api_Term rfl) ?_; refine awps_g0 rfl rfl rfl (by decide) rfl (by decide) (stp_binI rfl rfl rfl rfl) ?_; refine awps_stp0 rfl rfl (by decide) (stp_pick rfl rfl rfl) ?_; refine awps_nil ?_; refine thenQ_nil ?_; refine awp_cond rfl (fun c1 => ?_) (fun c1 => ?_)
  · try simp only [↓cqA, cqB] at c1
    refine awp_seq ?_; refine awp_region ?_; refine awps_stp0 rfl rfl (by decide) (stp_move (.inr rfl) rfl) ?_; refine awps_nil ?_; refine thenQ_nil ?_; refine awp_ret ?_; refine thenQ_ret (?_)
    -- leaf 0Fg46F1T
    refine ret0 (noL hL) (.inl rfl) (resAs_tmp rfl (resAs_nil)) ?_ ?_
    · rfl
    first
    | exact ⟨rfl, rfl⟩
    | exact absurd trivial (by assumption)
    | exact absurd rfl (by assumption)
    | (exfalso; omega)
    | trace_state
  try simp only [↓cqA, cqB] at c1
  refine awp_skip ?_; refine thenQ_nil ?_; refine awp_seq ?_; refine awp_region ?_; refine awps_call (avs := [_]) false rfl rfl rfl (by decide) en_almagestlaw11_variable rfl rfl (variable11_ok sX) rfl rfl ?_; refine awps_call (avs := [_]) false rfl rfl rfl (by decide) en_almagestlaw11_variable rfl rfl (variable11_ok sY) rfl rfl ?_
  refine awps_stp0 rfl rfl (by decide) (stp_buildSliceD false rfl sl_S_api_Term zv_api_Term rfl rfl (by decide) (by decide) (by decide) rfl rfl rfl rfl) ?_; refine awps_call (avs := [_, _]) false rfl rfl rfl (by decide) en_almagestlaw11_atom rfl rfl (atom11_ok ⟨#[103]⟩ [varT sX, varT sY] (by simp)) rfl rfl ?_; refine awps_call (avs := [_]) false rfl rfl rfl (by decide) en_almagestlaw11_variable rfl rfl (variable11_ok sX) rfl rfl ?_; refine awps_stp0 rfl rfl (by decide) (stp_buildSliceD false rfl sl_S_api_Term zv_api_Term rfl rfl (by decide) (by decide) (by decide) rfl rfl rfl rfl) ?_
  refine awps_call (avs := [_, _]) false rfl rfl rfl (by decide) en_almagestlaw11_atom rfl rfl (atom11_ok ⟨#[102]⟩ [varT sX] (by simp)) rfl rfl ?_; refine awps_call (avs := [_]) false rfl rfl rfl (by decide) en_almagestlaw11_variable rfl rfl (variable11_ok sY) rfl rfl ?_; refine awps_stp0 rfl rfl (by decide) (stp_buildSliceD false rfl sl_S_api_Term zv_api_Term rfl rfl (by decide) (by decide) (by decide) rfl rfl rfl rfl) ?_; refine awps_call (avs := [_, _]) false rfl rfl rfl (by decide) en_almagestlaw11_atom rfl rfl (atom11_ok ⟨#[102]⟩ [varT sY] (by simp)) rfl rfl ?_
  refine awps_stp0 rfl rfl (by decide) (stp_buildSliceD false rfl sl_S_api_Term zv_api_Term rfl rfl (by decide) (by decide) (by decide) rfl rfl rfl rfl) ?_; refine awps_stp0 rfl rfl (by decide) (stp_build rfl zv_api_Clause rfl pl_api_Clause rfl rfl) ?_; refine awps_sub (sub_le 62 rfl (body_le (g2Tm (varT sX) (varT sY)) [fTm (varT sX), fTm (varT sY)])) ?_
  refine awps_stp1 rfl rfl (by decide) (stp_alloc 8 rfl zv_api_Clause rfl) rfl ?_; refine awps_store rfl rfl rfl tf_api_Clause rfl rfl rfl rfl rfl rfl rfl rfl rfl ?_; refine awps_nil ?_; refine thenQ_nil ?_; refine awp_seq ?_; refine awp_drawG 11 mixed rfl rfl rfl rfl ?_; refine MGo_c1 rfl (by decide) (.run rfl (stp_buildSlice0 64 false rfl sl_S_api_Clause zv_api_Clause)) ?_; refine MGo_c0 rfl (by decide) (.run rfl (stp_move (.inl rfl) rfl)) ?_; refine MGo_u rfl rfl (by decide) (stpU_appendd 66 ta_S_api_Clause rfl rfl rfl rfl rfl (noL hL _) (h6) (by simp [h29]) rfl) ?_
  refine MGo_c0 rfl (by decide) (.run rfl (stp_load_all rfl tf_api_Clause rfl rfl rfl rfl)) ?_; refine MGo_c0 rfl (by decide) (.run rfl (stp_buildSliceD false rfl sl_S_api_Clause zv_api_Clause rfl rfl (by decide) (by decide) (by decide) rfl rfl rfl rfl)) ?_; refine MGo_u rfl rfl (by decide) (stpU_appenddF (news := [clD prs]) 69 ta_S_api_Clause rfl rfl (noL hL _) rfl rfl rfl rfl rfl (noL hL _) (h61 prs) (by simp [h29]) rfl) ?_
  refine MGo_c0 rfl (by decide) (.run rfl (stp_call (avs := [_]) false rfl en_known_All rfl rfl (key2) (fun _ => rfl) rfl)) ?_; refine MGo_c0 rfl (by decide) (.run rfl (stp_move (.inl rfl) rfl)) ?_; refine MGo_c0 rfl (by decide) (.run rfl (stp_extract rfl rfl rfl)) ?_; refine MGo_c0 rfl (by decide) (.run rfl (stp_extract rfl rfl rfl)) ?_
  refine MGo_c0 rfl (by decide) (.run rfl (stp_move (.inr rfl) rfl)) ?_; refine MGo_nil ⟨rfl, rfl, ?_⟩; refine awps_stp0 rfl rfl (by decide) (stp_move (.inr rfl) rfl) ?_; refine awps_nil ?_; refine thenQ_nil ?_; refine awp_seq ?_; refine awp_region ?_; refine awps_call (avs := [_]) false rfl rfl rfl (by decide) en_almagestlaw11_variable rfl rfl (variable11_ok sX) rfl rfl ?_
  refine awps_call (avs := [_]) false rfl rfl rfl (by decide) en_almagestlaw11_variable rfl rfl (variable11_ok sY) rfl rfl ?_; refine awps_stp0 rfl rfl (by decide) (stp_buildSliceD false rfl sl_S_api_Term zv_api_Term rfl rfl (by decide) (by decide) (by decide) rfl rfl rfl rfl) ?_; refine awps_call (avs := [_, _]) false rfl rfl rfl (by decide) en_almagestlaw11_atom rfl rfl (atom11_ok ⟨#[103]⟩ [varT sX, varT sY] (by simp)) rfl rfl ?_; refine awps_call (avs := [_]) false rfl rfl rfl (by decide) en_almagestlaw11_variable rfl rfl (variable11_ok sX) rfl rfl ?_
  refine awps_stp0 rfl rfl (by decide) (stp_buildSliceD false rfl sl_S_api_Term zv_api_Term rfl rfl (by decide) (by decide) (by decide) rfl rfl rfl rfl) ?_; refine awps_call (avs := [_, _]) false rfl rfl rfl (by decide) en_almagestlaw11_atom rfl rfl (atom11_ok ⟨#[102]⟩ [varT sX] (by simp)) rfl rfl ?_; refine awps_call (avs := [_]) false rfl rfl rfl (by decide) en_almagestlaw11_variable rfl rfl (variable11_ok sY) rfl rfl ?_; refine awps_stp0 rfl rfl (by decide) (stp_buildSliceD false rfl sl_S_api_Term zv_api_Term rfl rfl (by decide) (by decide) (by decide) rfl rfl rfl rfl) ?_
  refine awps_call (avs := [_, _]) false rfl rfl rfl (by decide) en_almagestlaw11_atom rfl rfl (atom11_ok ⟨#[102]⟩ [varT sY] (by simp)) rfl rfl ?_; refine awps_stp0 rfl rfl (by decide) (stp_buildSliceD false rfl sl_S_api_Term zv_api_Term rfl rfl (by decide) (by decide) (by decide) rfl rfl rfl rfl) ?_
  refine awps_call (avs := [_]) false rfl rfl rfl (by decide) en_almagestlaw11_variable rfl rfl (variable11_ok sX) rfl rfl ?_; refine awps_call (avs := [_]) false rfl rfl rfl (by decide) en_almagestlaw11_variable rfl rfl (variable11_ok sY) rfl rfl ?_; refine awps_stp0 rfl rfl (by decide) (stp_build rfl zv_api_Guard rfl pl_api_Guard rfl rfl) ?_
  refine awps_stp0 rfl rfl (by decide) (stp_buildSliceD false rfl sl_S_api_Guard zv_api_Guard rfl rfl (by decide) (by decide) (by decide) rfl rfl rfl rfl) ?_; refine awps_stp0 rfl rfl (by decide) (stp_build rfl zv_api_Clause rfl pl_api_Clause rfl rfl) ?_; refine awps_sub (sub_le 88 rfl (guards_le (g2Tm (varT sX) (varT sY)) [fTm (varT sX), fTm (varT sY)] [⟨3, varT sX, varT sY⟩])) ?_
  refine awps_stp1 rfl rfl (by decide) (stp_alloc 11 rfl zv_api_Clause rfl) rfl ?_; refine awps_store rfl rfl rfl tf_api_Clause rfl rfl rfl rfl rfl rfl rfl rfl rfl ?_; refine awps_nil ?_; refine thenQ_nil ?_; refine awp_seq ?_; refine awp_drawG 11 mixed rfl rfl rfl rfl ?_; refine MGo_c1 rfl (by decide) (.run rfl (stp_buildSlice0 90 false rfl sl_S_api_Clause zv_api_Clause)) ?_; refine MGo_c0 rfl (by decide) (.run rfl (stp_move (.inl rfl) rfl)) ?_; refine MGo_u rfl rfl (by decide) (stpU_appendd 92 ta_S_api_Clause rfl rfl rfl rfl rfl (noL hL _) (h6) (by simp [h29]) rfl) ?_
  refine MGo_c0 rfl (by decide) (.run rfl (stp_load_all rfl tf_api_Clause rfl rfl rfl rfl)) ?_; refine MGo_c0 rfl (by decide) (.run rfl (stp_buildSliceD false rfl sl_S_api_Clause zv_api_Clause rfl rfl (by decide) (by decide) (by decide) rfl rfl rfl rfl)) ?_; refine MGo_u rfl rfl (by decide) (stpU_appenddF (news := [clD smc]) 95 ta_S_api_Clause rfl rfl (noL hL _) rfl rfl rfl rfl rfl (noL hL _) (h61 smc) (by simp [h29]) rfl) ?_
  refine MGo_c0 rfl (by decide) (.run rfl (stp_call (avs := [_]) false rfl en_known_All rfl rfl (key3) (fun _ => rfl) rfl)) ?_; refine MGo_c0 rfl (by decide) (.run rfl (stp_move (.inl rfl) rfl)) ?_; refine MGo_c0 rfl (by decide) (.run rfl (stp_extract rfl rfl rfl)) ?_; refine MGo_c0 rfl (by decide) (.run rfl (stp_extract rfl rfl rfl)) ?_
  refine MGo_c0 rfl (by decide) (.run rfl (stp_move (.inr rfl) rfl)) ?_; refine MGo_nil ⟨rfl, rfl, ?_⟩; refine awps_stp0 rfl rfl (by decide) (stp_move (.inr rfl) rfl) ?_; refine awps_nil ?_; refine thenQ_nil ?_; refine awp_seq ?_; refine awp_region ?_; refine awps_stp0 rfl rfl (by decide) (stp_move (.inl rfl) rfl) ?_
  refine awps_call (avs := [_]) true rfl rfl rfl (by decide) en_almagestlaw11_num rfl rfl (num11_ok _) rfl rfl ?_; refine awps_stp0 rfl rfl (by decide) (stp_binI rfl rfl rfl rfl) ?_; refine awps_stp0 rfl rfl (by decide) (stp_move (.inl rfl) rfl) ?_; refine awps_split 102 rfl (fun g102 => ?_) (fun g102 => ?_)
  · try simp only [↓cqA, cqB] at g102
    refine awps_g0 rfl rfl rfl (by decide) rfl (by decide) (stp_move (.inl rfl) rfl) ?_; refine awps_g0 rfl rfl rfl (by decide) rfl (by decide) (stp_len_dat rfl sl_S_api_Term rfl) ?_; refine awps_g0 rfl rfl rfl (by decide) rfl (by decide) (stp_binI rfl rfl rfl rfl) ?_; refine awps_stp0 rfl rfl (by decide) (stp_pick rfl rfl rfl) ?_; refine awps_stp0 rfl rfl (by decide) (stp_move (.inl rfl) rfl) ?_; refine awps_split 107 rfl (fun g107 => ?_) (fun g107 => ?_)
    · try simp only [↓cqA, cqB] at g107
      refine awps_g0 rfl rfl rfl (by decide) rfl (by decide) (stp_move (.inl rfl) rfl) ?_; refine awps_g0 rfl rfl rfl (by decide) rfl (by decide) (stp_call (avs := [_]) true rfl en_almagestlaw11_num rfl rfl (num11_ok _) (fun _ => rfl) rfl) ?_; refine awps_g0 rfl rfl rfl (by decide) rfl (by decide) (stp_binI rfl rfl rfl rfl) ?_; refine awps_stp0 rfl rfl (by decide) (stp_pick rfl rfl rfl) ?_; refine awps_stp0 rfl rfl (by decide) (stp_move (.inl rfl) rfl) ?_; refine awps_split 112 rfl (fun g112 => ?_) (fun g112 => ?_)
      · try simp only [↓cqA, cqB] at g112
        refine awps_g0 rfl rfl rfl (by decide) rfl (by decide) (stp_move (.inl rfl) rfl) ?_; refine awps_g0 rfl rfl rfl (by decide) rfl (by decide) (stp_len_dat rfl sl_S_api_Term rfl) ?_; refine awps_g0 rfl rfl rfl (by decide) rfl (by decide) (stp_binI rfl rfl rfl rfl) ?_; refine awps_stp0 rfl rfl (by decide) (stp_pick rfl rfl rfl) ?_; refine awps_stp0 rfl rfl (by decide) (stp_move (.inl rfl) rfl) ?_; refine awps_split 117 rfl (fun g117 => ?_) (fun g117 => ?_)
        · try simp only [↓cqA, cqB] at g117
          refine awps_g0 rfl rfl rfl (by decide) rfl (by decide) (stp_fieldAddr rfl fo_almagestlaw11_Ask_0 rfl) ?_; refine awps_g0 rfl rfl rfl (by decide) rfl (by decide) (stp_load rfl tf_S_api_Clause rfl rfl rfl rfl rfl) ?_; refine awps_g0 rfl rfl rfl (by decide) rfl (by decide) (stp_len_dat rfl sl_S_api_Clause rfl) ?_
          refine awps_g0 rfl rfl rfl (by decide) rfl (by decide) (stp_binI rfl rfl rfl rfl) ?_; refine awps_stp0 rfl rfl (by decide) (stp_pick rfl rfl rfl) ?_; refine awps_stp0 rfl rfl (by decide) (stp_move (.inl rfl) rfl) ?_; refine awps_split 123 rfl (fun g123 => ?_) (fun g123 => ?_)
          · try simp only [↓cqA, cqB] at g123
            refine awps_g0 rfl rfl rfl (by decide) rfl (by decide) (stp_call (avs := []) true rfl en_almagestlaw11_wakes rfl rfl (wakes11_ok) (fun _ => rfl) rfl) ?_; refine awps_stp0 rfl rfl (by decide) (stp_pick rfl rfl rfl) ?_; refine awps_stp0 rfl rfl (by decide) (stp_move (.inr rfl) rfl) ?_; refine awps_nil ?_; refine thenQ_nil ?_; refine awp_ret ?_
            -- leaf 0Fg46F1Fg102Tg107Tg112Tg117Tg123T
            refine ret0 (noL hL) (.inl rfl) (resAs_tmp rfl (resAs_nil)) ?_ ?_
            · rfl
            first
            | exact ⟨rfl, rfl⟩
            | exact absurd trivial (by assumption)
            | exact absurd rfl (by assumption)
            | (exfalso; omega)
            | trace_state
          try simp only [↓cqA, cqB] at g123
          refine awps_gs rfl rfl rfl rfl (by decide) rfl (by decide) ?_; refine awps_stp0 rfl rfl (by decide) (stp_pick rfl rfl rfl) ?_; refine awps_stp0 rfl rfl (by decide) (stp_move (.inr rfl) rfl) ?_; refine awps_nil ?_; refine thenQ_nil ?_; refine awp_ret ?_
          -- leaf 0Fg46F1Fg102Tg107Tg112Tg117Tg123F
          refine ret0 (noL hL) (.inl rfl) (resAs_tmp rfl (resAs_nil)) ?_ ?_
          · rfl
          first
          | exact ⟨rfl, rfl⟩
          | exact absurd trivial (by assumption)
          | exact absurd rfl (by assumption)
          | (exfalso; omega)
          | trace_state
        try simp only [↓cqA, cqB] at g117
        refine awps_gs rfl rfl rfl rfl (by decide) rfl (by decide) ?_; refine awps_gs rfl rfl rfl rfl (by decide) rfl (by decide) ?_; refine awps_gs rfl rfl rfl rfl (by decide) rfl (by decide) ?_; refine awps_gs rfl rfl rfl rfl (by decide) rfl (by decide) ?_; refine awps_stp0 rfl rfl (by decide) (stp_pick rfl rfl rfl) ?_; refine awps_stp0 rfl rfl (by decide) (stp_move (.inl rfl) rfl) ?_
        refine awps_gs rfl rfl rfl rfl (by decide) rfl (by decide) ?_; refine awps_stp0 rfl rfl (by decide) (stp_pick rfl rfl rfl) ?_; refine awps_stp0 rfl rfl (by decide) (stp_move (.inr rfl) rfl) ?_; refine awps_nil ?_; refine thenQ_nil ?_; refine awp_ret ?_
        -- leaf 0Fg46F1Fg102Tg107Tg112Tg117F
        refine ret0 (noL hL) (.inl rfl) (resAs_tmp rfl (resAs_nil)) ?_ ?_
        · rfl
        first
        | exact ⟨rfl, rfl⟩
        | exact absurd trivial (by assumption)
        | exact absurd rfl (by assumption)
        | (exfalso; omega)
        | trace_state
      try simp only [↓cqA, cqB] at g112
      refine awps_gs rfl rfl rfl rfl (by decide) rfl (by decide) ?_; refine awps_gs rfl rfl rfl rfl (by decide) rfl (by decide) ?_; refine awps_gs rfl rfl rfl rfl (by decide) rfl (by decide) ?_; refine awps_stp0 rfl rfl (by decide) (stp_pick rfl rfl rfl) ?_; refine awps_stp0 rfl rfl (by decide) (stp_move (.inl rfl) rfl) ?_; refine awps_gs rfl rfl rfl rfl (by decide) rfl (by decide) ?_
      refine awps_gs rfl rfl rfl rfl (by decide) rfl (by decide) ?_; refine awps_gs rfl rfl rfl rfl (by decide) rfl (by decide) ?_; refine awps_gs rfl rfl rfl rfl (by decide) rfl (by decide) ?_; refine awps_stp0 rfl rfl (by decide) (stp_pick rfl rfl rfl) ?_; refine awps_stp0 rfl rfl (by decide) (stp_move (.inl rfl) rfl) ?_; refine awps_gs rfl rfl rfl rfl (by decide) rfl (by decide) ?_; refine awps_stp0 rfl rfl (by decide) (stp_pick rfl rfl rfl) ?_; refine awps_stp0 rfl rfl (by decide) (stp_move (.inr rfl) rfl) ?_; refine awps_nil ?_; refine thenQ_nil ?_; refine awp_ret ?_
      -- leaf 0Fg46F1Fg102Tg107Tg112F
      refine ret0 (noL hL) (.inl rfl) (resAs_tmp rfl (resAs_nil)) ?_ ?_
      · rfl
      first
      | exact ⟨rfl, rfl⟩
      | exact absurd trivial (by assumption)
      | exact absurd rfl (by assumption)
      | (exfalso; omega)
      | trace_state
    try simp only [↓cqA, cqB] at g107
    refine awps_gs rfl rfl rfl rfl (by decide) rfl (by decide) ?_; refine awps_gs rfl rfl rfl rfl (by decide) rfl (by decide) ?_; refine awps_gs rfl rfl rfl rfl (by decide) rfl (by decide) ?_; refine awps_stp0 rfl rfl (by decide) (stp_pick rfl rfl rfl) ?_; refine awps_stp0 rfl rfl (by decide) (stp_move (.inl rfl) rfl) ?_; refine awps_gs rfl rfl rfl rfl (by decide) rfl (by decide) ?_
    refine awps_gs rfl rfl rfl rfl (by decide) rfl (by decide) ?_; refine awps_gs rfl rfl rfl rfl (by decide) rfl (by decide) ?_; refine awps_stp0 rfl rfl (by decide) (stp_pick rfl rfl rfl) ?_; refine awps_stp0 rfl rfl (by decide) (stp_move (.inl rfl) rfl) ?_; refine awps_gs rfl rfl rfl rfl (by decide) rfl (by decide) ?_; refine awps_gs rfl rfl rfl rfl (by decide) rfl (by decide) ?_
    refine awps_gs rfl rfl rfl rfl (by decide) rfl (by decide) ?_; refine awps_gs rfl rfl rfl rfl (by decide) rfl (by decide) ?_; refine awps_stp0 rfl rfl (by decide) (stp_pick rfl rfl rfl) ?_; refine awps_stp0 rfl rfl (by decide) (stp_move (.inl rfl) rfl) ?_; refine awps_gs rfl rfl rfl rfl (by decide) rfl (by decide) ?_; refine awps_stp0 rfl rfl (by decide) (stp_pick rfl rfl rfl) ?_; refine awps_stp0 rfl rfl (by decide) (stp_move (.inr rfl) rfl) ?_; refine awps_nil ?_; refine thenQ_nil ?_; refine awp_ret ?_
    -- leaf 0Fg46F1Fg102Tg107F
    refine ret0 (noL hL) (.inl rfl) (resAs_tmp rfl (resAs_nil)) ?_ ?_
    · rfl
    first
    | exact ⟨rfl, rfl⟩
    | exact absurd trivial (by assumption)
    | exact absurd rfl (by assumption)
    | (exfalso; omega)
    | trace_state
  try simp only [↓cqA, cqB] at g102
  refine awps_gs rfl rfl rfl rfl (by decide) rfl (by decide) ?_; refine awps_gs rfl rfl rfl rfl (by decide) rfl (by decide) ?_; refine awps_gs rfl rfl rfl rfl (by decide) rfl (by decide) ?_; refine awps_stp0 rfl rfl (by decide) (stp_pick rfl rfl rfl) ?_; refine awps_stp0 rfl rfl (by decide) (stp_move (.inl rfl) rfl) ?_; refine awps_gs rfl rfl rfl rfl (by decide) rfl (by decide) ?_
  refine awps_gs rfl rfl rfl rfl (by decide) rfl (by decide) ?_; refine awps_gs rfl rfl rfl rfl (by decide) rfl (by decide) ?_; refine awps_stp0 rfl rfl (by decide) (stp_pick rfl rfl rfl) ?_; refine awps_stp0 rfl rfl (by decide) (stp_move (.inl rfl) rfl) ?_; refine awps_gs rfl rfl rfl rfl (by decide) rfl (by decide) ?_; refine awps_gs rfl rfl rfl rfl (by decide) rfl (by decide) ?_
  refine awps_gs rfl rfl rfl rfl (by decide) rfl (by decide) ?_; refine awps_stp0 rfl rfl (by decide) (stp_pick rfl rfl rfl) ?_; refine awps_stp0 rfl rfl (by decide) (stp_move (.inl rfl) rfl) ?_; refine awps_gs rfl rfl rfl rfl (by decide) rfl (by decide) ?_; refine awps_gs rfl rfl rfl rfl (by decide) rfl (by decide) ?_; refine awps_gs rfl rfl rfl rfl (by decide) rfl (by decide) ?_
  refine awps_gs rfl rfl rfl rfl (by decide) rfl (by decide) ?_; refine awps_stp0 rfl rfl (by decide) (stp_pick rfl rfl rfl) ?_; refine awps_stp0 rfl rfl (by decide) (stp_move (.inl rfl) rfl) ?_; refine awps_gs rfl rfl rfl rfl (by decide) rfl (by decide) ?_; refine awps_stp0 rfl rfl (by decide) (stp_pick rfl rfl rfl) ?_; refine awps_stp0 rfl rfl (by decide) (stp_move (.inr rfl) rfl) ?_; refine awps_nil ?_; refine thenQ_nil ?_; refine awp_ret ?_
  -- leaf 0Fg46F1Fg102F
  refine ret0 (noL hL) (.inl rfl) (resAs_tmp rfl (resAs_nil)) ?_ ?_
  · rfl
  first
  | exact ⟨rfl, rfl⟩
  | exact absurd trivial (by assumption)
  | exact absurd rfl (by assumption)
  | (exfalso; omega)
  | trace_state
end Go.Proofs.YtdecgkhdbfgldaaGreat
