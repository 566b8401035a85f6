/- Part 8 of the proof: Gm, Gn, Hg, Ia. -/
import Derived.Test.YtdecgkhdbfgldaaGreatG7
set_option linter.unusedVariables false
set_option linter.unusedSimpArgs false
set_option maxRecDepth 8000
namespace Go.Proofs.YtdecgkhdbfgldaaGreat
open Go
theorem bindOwnF_ok (l : List Bd) (hl : BOk l) : PF 102 [bdA l] (bdA l) := by
  have hlen := bdDs_length l
  have hll := hl.len
  refine AC_intro Tryz.func102 rfl Tryz.ntmps102 (Nat.le_of_ble_eq_true rfl) fun c hL hQ hDD => ?_; refine awp_seq ?_; refine awp_region ?_; refine awps_stp0 rfl rfl (by decide) (stp_move (.inr rfl) rfl) ?_; refine awps_nil ?_; refine thenQ_nil ?_; refine awp_seq ?_; refine awp_seq ?_; refine awp_region ?_; refine awps_stp0 rfl rfl (by decide) (stp_move (.inl rfl) rfl) ?_; refine awps_stp0 rfl rfl (by decide) (stp_len_dat rfl sl_S_api_Bind rfl) ?_
  refine awps_stp0 rfl rfl (by decide) (stp_move (.inl rfl) rfl) ?_; refine awps_nil ?_; refine thenQ_nil ?_; refine awp_block ?_; refine awp_while (l.length) (fun k => k ≤ l.length) (fun k => ⟨[(2, .row 2), (5, bdA l), (6, iv (bdDs l).length), (7, iv (k : Int))], [(2, .rowd 40 5 true (bdDs (l.take k)))]⟩) (by omega) ?_ (fun k hk hp => ?_)
  · exact Sub.trans (sub_nil_row (t := 2) (l := 2) 40 5 true rfl rfl) (sub_re (SubT.cons (lk_eq rfl (by first | rfl | simp)) (SubT.cons (lk_eq rfl (by first | rfl | simp)) (SubT.cons (lk_eq rfl (by first | rfl | simp)) (SubT.cons (lk_eq rfl (by first | rfl | simp)) (SubT.nil))))) (SubO.cons (ok_eq rfl (by rfl)) (SubO.nil)) rfl rfl (noL' (noL hL) _))
  have hl2 : (bdDs (l.take k)).length ≤ l.length := by rw [bdDs_length, List.length_take]; omega
  refine awp_seq ?_; refine awp_region ?_; refine awps_stp0 rfl rfl (by decide) (stp_binI rfl rfl rfl rfl) ?_; refine awps_nil ?_; refine thenQ_nil ?_; refine awp_seq ?_; refine awp_cond rfl (fun c0 => ?_) (fun c0 => ?_)
  · try simp only [↓cqA, cqB] at c0
    obtain ⟨u, hu⟩ := get_of_lt (l := l) (k := k) (by omega)
    have hum := hl.el u (List.mem_of_getElem? hu)
    have key := Own_ok 5 u.t (mayT_dle hum.2).1 hum.1.2
    rw [own_may 5 u.t 24 hum.2] at key
    refine awp_skip ?_; refine thenQ_nil ?_; refine awp_seq ?_; refine awp_block ?_; refine awp_seq ?_; refine awp_region ?_; refine awps_stp0 rfl rfl (by decide) (stp_indexAddr rfl sl_S_api_Bind rfl rfl (by omega) (bdDs_get hu)) ?_; refine awps_stp0 rfl rfl (by decide) (stp_load_elpa rfl tf_api_Bind rfl rfl) ?_
    refine awps_stp1 rfl rfl (by decide) (stp_alloc 4 rfl zv_api_Bind rfl) rfl ?_; refine awps_store rfl rfl rfl tf_api_Bind rfl rfl rfl rfl rfl rfl rfl rfl rfl ?_; refine awps_nil ?_; refine thenQ_nil ?_; refine awp_drawG 8 mixed rfl rfl rfl rfl ?_; refine MGo_c0 rfl (by decide) (.run rfl (stp_move (.inl rfl) rfl)) ?_; refine MGo_c0 rfl (by decide) (.run rfl (stp_fieldAddr rfl fo_api_Bind_0 rfl)) ?_; refine MGo_c0 rfl (by decide) (.run rfl (stp_load rfl tf_string rfl rfl rfl rfl rfl)) ?_; refine MGo_c0 rfl (by decide) (.run rfl (stp_fieldAddr rfl fo_api_Bind_1 rfl)) ?_
    refine MGo_c0 rfl (by decide) (.run rfl (stp_load rfl tf_api_Term rfl rfl rfl rfl rfl)) ?_; refine MGo_c0 rfl (by decide) (.run rfl (stp_call (avs := [_]) true rfl en_term_Own rfl rfl (key) (fun _ => rfl) rfl)) ?_; refine MGo_c0 rfl (by decide) (.run rfl (stp_build rfl zv_api_Bind rfl pl_api_Bind rfl rfl)) ?_; refine MGo_c1 rfl (by decide) (.run rfl (stp_buildSlice 18 rfl sl_S_api_Bind zv_api_Bind rfl rfl (by decide) (by decide) (by decide) rfl rfl rfl)) ?_; refine MGo_nil ⟨rfl, rfl, ?_⟩
    refine awps_u rfl rfl (by decide) (stpU_append1 19 ta_S_api_Bind rfl rfl rfl rfl rfl rfl rfl rfl (noL hL _) (by omega) rfl) rfl ?_; refine awps_stp0 rfl rfl (by decide) (stp_move (.inr rfl) rfl) ?_; refine awps_nil ?_; refine inQ_nil ?_; refine thenQ_nil ?_; refine awp_region ?_; refine awps_stp0 rfl rfl (by decide) (stp_add rfl rfl rfl (by omega)) ?_; refine awps_stp0 rfl rfl (by decide) (stp_move (.inl rfl) rfl) ?_; refine awps_nil ?_; refine thenQ_nil ?_; refine ⟨?_, ?_, ?_⟩
    · skip
      omega
    · skip
      omega
    exact Sub.trans (sub_rename 19 2 (noL hL _) (noL hL _)) (sub_re (SubT.cons (lk_eq rfl (by first | rfl | simp)) (SubT.cons (lk_eq rfl (by first | rfl | simp)) (SubT.cons (lk_eq rfl (by first | rfl | simp)) (SubT.cons (lk_eq rfl (by first | rfl | simp)) (SubT.nil))))) (SubO.cons (ok_eq rfl (by rw [take_snoc hu, bdDs, bdDs, List.map_append]; rfl)) (SubO.nil)) rfl rfl (noL' (noL hL) _))
  try simp only [↓cqA, cqB] at c0
  refine awp_exit ?_; refine thenQ_exit (thenQ_exit (inQ_hit ?_)); refine thenQ_nil ?_; refine awp_seq ?_; refine awp_sub (sub_freeze (l := 2) rfl (by decide) (noL hL _) rfl rfl) ?_; refine awp_sub (sub_untag hQ) ?_; refine awp_region ?_; refine awps_stp0 rfl rfl (by decide) (stp_move (.inl rfl) rfl) ?_; refine awps_stp0 rfl rfl (by decide) (stp_move (.inr rfl) rfl) ?_; refine awps_nil ?_; refine thenQ_nil ?_; refine awp_ret ?_
  -- leaf 0F
  refine ret0 (noL hL) (.inl rfl) (resAs_tmp rfl (resAs_nil)) ?_ ?_
  · rfl
  exact ⟨by rw [List.take_of_length_le (by omega)]; rfl, rfl⟩
mutual
def fitR : Nat → List Bd → Tm → Tm → List Bd × Int
  | 0, _, _, _ => ([], 3)
  | d + 1, l, a, b => if a.kind = 1 then (if hasB l a.name = true then (if cmpT 5 (lookT l a.name) b = 0 then (l, 0) else ([], 3)) else (standL l a.name b, standE l a.name b)) else if argsB a b = true then fitL d l (a.args.zip b.args) else ([], 3)
def fitL : Nat → List Bd → List (Tm × Tm) → List Bd × Int
  | _, l, [] => (l, 0)
  | d, l, p :: ps => if (fitR d l p.1 p.2).2 ≠ 0 then ([], (fitR d l p.1 p.2).2) else fitL d (fitR d l p.1 p.2).1 ps
end
theorem fitL_snoc (d : Nat) (p : Tm × Tm) : ∀ (ps : List (Tm × Tm)) (l : List Bd), (fitL d l ps).2 = 0 → fitL d l (ps ++ [p]) = if (fitR d (fitL d l ps).1 p.1 p.2).2 ≠ 0 then ([], (fitR d (fitL d l ps).1 p.1 p.2).2) else ((fitR d (fitL d l ps).1 p.1 p.2).1, 0)
  | [], l, _ => by simp only [List.nil_append, fitL]
  | q :: ps, l, h => by
    rw [fitL] at h
    rw [List.cons_append, fitL, fitL]
    split at h
    · rename_i hc; exact absurd h hc
    · rename_i hc
      rw [if_neg hc, if_neg hc]
      exact fitL_snoc d p ps _ h
theorem fitL_stop (d : Nat) : ∀ (ps qs : List (Tm × Tm)) (l : List Bd), (fitL d l ps).2 ≠ 0 → fitL d l (ps ++ qs) = fitL d l ps
  | [], qs, l, h => by rw [fitL] at h; exact absurd rfl h
  | q :: ps, qs, l, h => by
    rw [List.cons_append, fitL, fitL]
    rw [fitL] at h
    split
    · rfl
    · rename_i hc
      rw [if_neg hc] at h
      exact fitL_stop d ps qs _ h
theorem standL_bok {l : List Bd} (h : BOk l) {s : ByteArray} (hs : s.size ≤ 140737488351232) {t : Tm} (ht : t.wf) (hm : mayT t = true) (hl : hasB l s = false) : BOk (standL l s t) := by
  unfold standL
  split
  · exact ⟨List.Pairwise.nil, by simp, fun b hb => by cases hb⟩
  · rename_i hc
    have hg : goodB [⟨s, t⟩] l = true := by
      cases hx : goodB [⟨s, t⟩] l with
      | true => rfl
      | false => exact absurd (.inr hx) hc
    have hsb : hasB (subB [⟨s, t⟩] l) s = false := by
      rw [hasB_no] at hl ⊢
      intro b hb
      obtain ⟨c, hc2, rfl⟩ := List.mem_map.1 hb
      exact hl c hc2
    have hr := ins_ris (y := ⟨s, t⟩) (subB_ris [⟨s, t⟩] h.ris) hsb
    rw [subB_pos] at hr
    refine ⟨hr, ?_, fun b hb => ?_⟩
    · rw [ins_length _ _ _ (by rw [subB_length]; exact posB_le l s), subB_length]; omega
    · rcases (mem_ins _ _ _ _).1 hb with hb | rfl
      · obtain ⟨c, hc2, rfl⟩ := List.mem_map.1 hb
        have := List.all_eq_true.1 hg c hc2
        exact ⟨⟨(h.el c hc2).1.1, putT_wf (one_bok hs ht hm) (h.el c hc2).1.2⟩, (into_may (by simpa using this)).1⟩
      · exact ⟨⟨hs, ht⟩, hm⟩
theorem may_arg {b v : Tm} (h : mayT b = true) (hv : v ∈ b.args) : mayT v = true := by
  rw [mayT_iff] at h ⊢
  refine ⟨h.1.arg hv, dle_mono 4 5 v (by omega) (h.2.1 v hv), ?_⟩
  have h2 := Tm.sz_eq b
  obtain ⟨i, hi⟩ := List.getElem?_of_mem hv
  have := sum_split (l := b.args) (k := i) (u := v) Tm.sz hi
  omega
theorem nil_bok : BOk [] := ⟨List.Pairwise.nil, by simp, fun b hb => by cases hb⟩
mutual
theorem fitR_bok : ∀ (d : Nat) (l : List Bd) (a b : Tm), BOk l → a.wf → b.wf → mayT b = true → BOk (fitR d l a b).1
  | 0, l, a, b, _, _, _, _ => by rw [fitR]; exact nil_bok
  | d + 1, l, a, b, h, ha, hb, hm => by
    rw [fitR]
    split
    · split
      · split
        · exact h
        · exact nil_bok
      · rename_i hh; exact standL_bok h ha.2.1 hb hm (by simpa using hh)
    · split
      · exact fitL_bok d (a.args.zip b.args) l h fun p hp => by
          have := List.of_mem_zip hp
          exact ⟨Tm.wfs_mem ha.2.2.2.2 this.1, Tm.wfs_mem hb.2.2.2.2 this.2, may_arg hm this.2⟩
      · exact nil_bok
theorem fitL_bok : ∀ (d : Nat) (ps : List (Tm × Tm)) (l : List Bd), BOk l → (∀ p ∈ ps, p.1.wf ∧ p.2.wf ∧ mayT p.2 = true) → BOk (fitL d l ps).1
  | d, [], l, h, _ => by rw [fitL]; exact h
  | d, p :: ps, l, h, hp => by
    rw [fitL]
    split
    · exact nil_bok
    · obtain ⟨h1, h2, h3⟩ := hp p (by simp)
      exact fitL_bok d ps _ (fitR_bok d l p.1 p.2 h h1 h2 h3) fun q hq => hp q (by simp [hq])
end
def fitPost (q : List Bd × Int) (r : AV) : Prop := (r = .tup [.imm (.slice none 0 0), iv q.2] ∧ q.1 = []) ∨ r = .tup [bdA q.1, iv q.2]
theorem fitPost_ok {f : FuncId} {args : List AV} {q : List Bd × Int} (h : AC Tryz.prog f args [] (fun r O => fitPost q r ∧ O = [])) : PF f args (.tup [bdA q.1, iv q.2]) :=
  AC_leP h (fun r O' h => by
    obtain ⟨⟨rfl, e1⟩ | rfl, rfl⟩ := h
    · exact ⟨_, .tup (.cons (.nil (f := false) (k := 5)) (.cons .refl .nil)), by rw [e1]; rfl, rfl⟩
    · exact ⟨_, .refl, rfl, rfl⟩)
theorem Fit_ok : ∀ (d : Nat) (l : List Bd) (a b : Tm), dle d a → a.shp → a.wf → BOk l → b.wf → mayT b = true → PF 201 [bdA l, tmA false a, tmA false b] (.tup [bdA (fitR d l a b).1, iv (fitR d l a b).2])
  | 0, l, a, b, h, _, _, _, _, _ => h.elim
  | d + 1, l, a, b, h, hs, ha, hl, hb, hm => by
    refine fitPost_ok ?_
    have hln := hl.len
    have hal : a.args.length ≤ 4 := by
      rcases ((Tm.shp_iff a).1 hs).1 with ⟨_, _, _, e⟩ | ⟨_, _, _, e⟩ | ⟨_, _, _, e⟩ <;> simp_all
    have hlk : (lookT l a.name).wf ∧ dle 5 (lookT l a.name) ∨ hasB l a.name = false := by
      have h1 := (lookB_has l a.name hl.ris).1
      cases hh : hasB l a.name with
      | false => exact .inr rfl
      | true =>
        rw [hh] at h1
        cases h2 : lookB l a.name with
        | none => rw [h2] at h1; cases h1
        | some t => rw [lookT, h2]; exact .inl ⟨(hl.look h2).1, may_dle (hl.look h2).2⟩
    refine AC_intro Tryz.func201 rfl Tryz.ntmps201 (Nat.le_of_ble_eq_true rfl) fun c hL hQ hDD => ?_; refine awp_seq ?_; refine awp_region ?_; refine awps_stp1 rfl rfl (by decide) (stp_box 4 rfl rfl rfl) rfl ?_; refine awps_stp1 rfl rfl (by decide) (stp_box 5 rfl rfl rfl) rfl ?_; refine awps_stp0 rfl rfl (by decide) (stp_move (.inr rfl) rfl) ?_; refine awps_stp0 rfl rfl (by decide) (stp_move (.inr rfl) rfl) ?_; refine awps_nil ?_; refine thenQ_nil ?_; refine awp_seq ?_; refine awp_seq ?_; refine awp_region ?_; refine awps_stp0 rfl rfl (by decide) (stp_fieldAddr rfl fo_api_Term_0 rfl) ?_
    refine awps_stp0 rfl rfl (by decide) (stp_load rfl tf_int rfl rfl rfl rfl rfl) ?_; refine awps_stp0 rfl rfl (by decide) (stp_binI rfl rfl rfl rfl) ?_; refine awps_nil ?_; refine thenQ_nil ?_; refine awp_cond rfl (fun c0 => ?_) (fun c0 => ?_)
    · try simp only [↓cqA, cqB] at c0
      refine awp_seq ?_; refine awp_region ?_; refine awps_stp0 rfl rfl (by decide) (stp_move (.inl rfl) rfl) ?_; refine awps_stp0 rfl rfl (by decide) (stp_fieldAddr rfl fo_api_Term_1 rfl) ?_; refine awps_stp0 rfl rfl (by decide) (stp_load rfl tf_string rfl rfl rfl rfl rfl) ?_
      refine awps_call (avs := [_, _]) false rfl rfl rfl (by decide) en_bind_Look rfl rfl (Look_ok l a.name hl.ris (by omega)) rfl rfl ?_; refine awps_stp0 rfl rfl (by decide) (stp_move (.inl rfl) rfl) ?_; refine awps_stp0 rfl rfl (by decide) (stp_extract rfl rfl rfl) ?_; refine awps_stp0 rfl rfl (by decide) (stp_extract rfl rfl rfl) ?_
      refine awps_stp1 rfl rfl (by decide) (stp_alloc 8 rfl zv_api_Term rfl) rfl ?_; refine awps_store rfl rfl rfl tf_api_Term rfl rfl rfl rfl rfl rfl rfl rfl rfl ?_; refine awps_stp0 rfl rfl (by decide) (stp_move (.inr rfl) rfl) ?_; refine awps_nil ?_; refine thenQ_nil ?_; refine awp_seq ?_; refine awp_block ?_; refine awp_seq ?_; refine awp_region ?_; refine awps_stp0 rfl rfl (by decide) (stp_move (.inl rfl) rfl) ?_; refine awps_stp0 rfl rfl (by decide) (stp_move (.inl rfl) rfl) ?_; refine awps_split 28 rfl (fun g28 => ?_) (fun g28 => ?_)
      · try simp only [↓cqA, cqB] at g28
        have hlk2 : (lookT l a.name).wf ∧ dle 5 (lookT l a.name) := by
          rcases hlk with h | h
          · exact h
          · rw [h] at g28; cases g28
        refine awps_g0 rfl rfl rfl (by decide) rfl (by decide) (stp_load_all rfl tf_api_Term rfl rfl rfl rfl) ?_; refine awps_g0 rfl rfl rfl (by decide) rfl (by decide) (stp_load_all rfl tf_api_Term rfl rfl rfl rfl) ?_; refine awps_g0 rfl rfl rfl (by decide) rfl (by decide) (stp_call (avs := [_, _]) true rfl en_term_Compare rfl rfl (Compare_ok 5 (lookT l a.name) b hlk2.2 hlk2.1 hb) (fun _ => rfl) rfl) ?_; refine awps_g0 rfl rfl rfl (by decide) rfl (by decide) (stp_binI rfl rfl rfl rfl) ?_; refine awps_stp0 rfl rfl (by decide) (stp_pick rfl rfl rfl) ?_
        refine awps_stp0 rfl rfl (by decide) (stp_move (.inr rfl) rfl) ?_; refine awps_nil ?_; refine thenQ_nil ?_; refine awp_cond rfl (fun c1 => ?_) (fun c1 => ?_)
        · try simp only [↓cqA, cqB] at c1
          refine awp_seq ?_; refine awp_region ?_; refine awps_stp0 rfl rfl (by decide) (stp_move (.inr rfl) rfl) ?_; refine awps_stp0 rfl rfl (by decide) (stp_move (.inr rfl) rfl) ?_; refine awps_nil ?_; refine thenQ_nil ?_; refine awp_ret ?_; refine inQ_ret (thenQ_ret (thenQ_ret (?_)))
          -- leaf 0Tg28T1T
          refine ret0 (noL hL) (.inl rfl) (resAs_tmp rfl (resAs_tmp rfl (resAs_nil))) ?_ ?_
          · rfl
          refine ⟨?_, rfl⟩
          rw [fitR]
          repeat' split
          all_goals first | exact .inl ⟨rfl, rfl⟩ | exact .inr rfl | (exfalso; simp_all; done)
        try simp only [↓cqA, cqB] at c1
        refine awp_seq ?_; refine awp_region ?_; refine awps_stp0 rfl rfl (by decide) (stp_move (.inl rfl) rfl) ?_; refine awps_stp0 rfl rfl (by decide) (stp_move (.inr rfl) rfl) ?_; refine awps_nil ?_; refine thenQ_nil ?_; refine awp_cond rfl (fun c2 => ?_) (fun c2 => ?_)
        · try simp only [↓cqA, cqB] at c2
          refine awp_seq ?_; refine awp_region ?_; refine awps_stp0 rfl rfl (by decide) (stp_move (.inl rfl) rfl) ?_; refine awps_stp0 rfl rfl (by decide) (stp_move (.inr rfl) rfl) ?_; refine awps_stp0 rfl rfl (by decide) (stp_move (.inr rfl) rfl) ?_; refine awps_nil ?_; refine thenQ_nil ?_; refine awp_ret ?_; refine inQ_ret (thenQ_ret (thenQ_ret (?_)))
          -- leaf 0Tg28T1F2T
          refine ret0 (noL hL) (.inl rfl) (resAs_tmp rfl (resAs_tmp rfl (resAs_nil))) ?_ ?_
          · rfl
          refine ⟨?_, rfl⟩
          rw [fitR]
          repeat' split
          all_goals first | exact .inl ⟨rfl, rfl⟩ | exact .inr rfl | (exfalso; simp_all; done)
        try simp only [↓cqA, cqB] at c2
        have hno : hasB l a.name = false := by simp_all
        refine awp_skip ?_; refine inQ_nil ?_; refine thenQ_nil ?_; refine awp_seq ?_; refine awp_region ?_; refine awps_stp0 rfl rfl (by decide) (stp_move (.inl rfl) rfl) ?_; refine awps_stp0 rfl rfl (by decide) (stp_fieldAddr rfl fo_api_Term_1 rfl) ?_; refine awps_stp0 rfl rfl (by decide) (stp_load rfl tf_string rfl rfl rfl rfl rfl) ?_; refine awps_stp0 rfl rfl (by decide) (stp_load_all rfl tf_api_Term rfl rfl rfl rfl) ?_
        refine awps_call (avs := [_, _, _]) true rfl rfl rfl (by decide) en_bind_Stand rfl rfl (Stand_ok l hl a.name ha.2.1 b hb hm) rfl rfl ?_; refine awps_stp0 rfl rfl (by decide) (stp_extract rfl rfl rfl) ?_; refine awps_stp0 rfl rfl (by decide) (stp_extract rfl rfl rfl) ?_; refine awps_sub (sub_untag hQ) ?_; refine awps_stp0 rfl rfl (by decide) (stp_move (.inr rfl) rfl) ?_; refine awps_stp0 rfl rfl (by decide) (stp_move (.inr rfl) rfl) ?_; refine awps_nil ?_; refine thenQ_nil ?_; refine awp_ret ?_; refine thenQ_ret (?_)
        -- leaf 0Tg28T1F2F
        refine ret0 (noL hL) (.inl rfl) (resAs_tmp rfl (resAs_tmp rfl (resAs_nil))) ?_ ?_
        · rfl
        refine ⟨?_, rfl⟩
        rw [fitR]
        repeat' split
        all_goals first | exact .inl ⟨rfl, rfl⟩ | exact .inr rfl | (exfalso; simp_all; done)
      try simp only [↓cqA, cqB] at g28
      refine awps_gs rfl rfl rfl rfl (by decide) rfl (by decide) ?_; refine awps_gs rfl rfl rfl rfl (by decide) rfl (by decide) ?_; refine awps_gs rfl rfl rfl rfl (by decide) rfl (by decide) ?_; refine awps_gs rfl rfl rfl rfl (by decide) rfl (by decide) ?_; refine awps_stp0 rfl rfl (by decide) (stp_pick rfl rfl rfl) ?_; refine awps_stp0 rfl rfl (by decide) (stp_move (.inr rfl) rfl) ?_
      refine awps_nil ?_; refine thenQ_nil ?_; refine awp_condF rfl ?_; refine awp_seq ?_; refine awp_region ?_; refine awps_stp0 rfl rfl (by decide) (stp_move (.inl rfl) rfl) ?_; refine awps_stp0 rfl rfl (by decide) (stp_move (.inr rfl) rfl) ?_; refine awps_nil ?_; refine thenQ_nil ?_; refine awp_cond rfl (fun c2 => ?_) (fun c2 => ?_)
      · try simp only [↓cqA, cqB] at c2
        refine awp_seq ?_; refine awp_region ?_; refine awps_stp0 rfl rfl (by decide) (stp_move (.inl rfl) rfl) ?_; refine awps_stp0 rfl rfl (by decide) (stp_move (.inr rfl) rfl) ?_; refine awps_stp0 rfl rfl (by decide) (stp_move (.inr rfl) rfl) ?_; refine awps_nil ?_; refine thenQ_nil ?_; refine awp_ret ?_; refine inQ_ret (thenQ_ret (thenQ_ret (?_)))
        -- leaf 0Tg28F2T
        refine ret0 (noL hL) (.inl rfl) (resAs_tmp rfl (resAs_tmp rfl (resAs_nil))) ?_ ?_
        · rfl
        refine ⟨?_, rfl⟩
        rw [fitR]
        repeat' split
        all_goals first | exact .inl ⟨rfl, rfl⟩ | exact .inr rfl | (exfalso; simp_all; done)
      try simp only [↓cqA, cqB] at c2
      have hno : hasB l a.name = false := by simp_all
      refine awp_skip ?_; refine inQ_nil ?_; refine thenQ_nil ?_; refine awp_seq ?_; refine awp_region ?_; refine awps_stp0 rfl rfl (by decide) (stp_move (.inl rfl) rfl) ?_; refine awps_stp0 rfl rfl (by decide) (stp_fieldAddr rfl fo_api_Term_1 rfl) ?_; refine awps_stp0 rfl rfl (by decide) (stp_load rfl tf_string rfl rfl rfl rfl rfl) ?_; refine awps_stp0 rfl rfl (by decide) (stp_load_all rfl tf_api_Term rfl rfl rfl rfl) ?_
      refine awps_call (avs := [_, _, _]) true rfl rfl rfl (by decide) en_bind_Stand rfl rfl (Stand_ok l hl a.name ha.2.1 b hb hm) rfl rfl ?_; refine awps_stp0 rfl rfl (by decide) (stp_extract rfl rfl rfl) ?_; refine awps_stp0 rfl rfl (by decide) (stp_extract rfl rfl rfl) ?_; refine awps_sub (sub_untag hQ) ?_; refine awps_stp0 rfl rfl (by decide) (stp_move (.inr rfl) rfl) ?_; refine awps_stp0 rfl rfl (by decide) (stp_move (.inr rfl) rfl) ?_; refine awps_nil ?_; refine thenQ_nil ?_; refine awp_ret ?_; refine thenQ_ret (?_)
      -- leaf 0Tg28F2F
      refine ret0 (noL hL) (.inl rfl) (resAs_tmp rfl (resAs_tmp rfl (resAs_nil))) ?_ ?_
      · rfl
      refine ⟨?_, rfl⟩
      rw [fitR]
      repeat' split
      all_goals first | exact .inl ⟨rfl, rfl⟩ | exact .inr rfl | (exfalso; simp_all; done)
    try simp only [↓cqA, cqB] at c0
    refine awp_skip ?_; refine thenQ_nil ?_; refine awp_seq ?_; refine awp_region ?_; refine awps_stp0 rfl rfl (by decide) (stp_load_all rfl tf_api_Term rfl rfl rfl rfl) ?_; refine awps_stp0 rfl rfl (by decide) (stp_load_all rfl tf_api_Term rfl rfl rfl rfl) ?_; refine awps_call (avs := [_, _]) false rfl rfl rfl (by decide) en_unify_args rfl rfl (args_ok a b ha hb (by omega)) rfl rfl ?_; refine awps_stp0 rfl rfl (by decide) (stp_move (.inl rfl) rfl) ?_; refine awps_stp0 rfl rfl (by decide) (stp_extract rfl rfl rfl) ?_; refine awps_stp0 rfl rfl (by decide) (stp_extract rfl rfl rfl) ?_
    refine awps_stp0 rfl rfl (by decide) (stp_move (.inr rfl) rfl) ?_; refine awps_stp0 rfl rfl (by decide) (stp_move (.inr rfl) rfl) ?_; refine awps_nil ?_; refine thenQ_nil ?_; refine awp_seq ?_; refine awp_seq ?_; refine awp_region ?_; refine awps_stp0 rfl rfl (by decide) (stp_move (.inl rfl) rfl) ?_; refine awps_stp0 rfl rfl (by decide) (stp_not rfl rfl) ?_; refine awps_nil ?_; refine thenQ_nil ?_; refine awp_cond rfl (fun c3 => ?_) (fun c3 => ?_)
    · try simp only [↓cqA, cqB] at c3
      refine awp_seq ?_; refine awp_region ?_; refine awps_stp0 rfl rfl (by decide) (stp_move (.inr rfl) rfl) ?_; refine awps_stp0 rfl rfl (by decide) (stp_move (.inr rfl) rfl) ?_; refine awps_nil ?_; refine thenQ_nil ?_; refine awp_ret ?_; refine thenQ_ret (?_)
      -- leaf 0F3T
      refine ret0 (noL hL) (.inl rfl) (resAs_tmp rfl (resAs_tmp rfl (resAs_nil))) ?_ ?_
      · rfl
      refine ⟨?_, rfl⟩
      rw [fitR]
      repeat' split
      all_goals first | exact .inl ⟨rfl, rfl⟩ | exact .inr rfl | (exfalso; simp_all; done)
    try simp only [↓cqA, cqB] at c3
    have hab : argsB a b = true := by simp_all
    have haL : argsL a b = a.args.zip b.args := by rw [argsL, if_pos hab]
    have hpl := prDs_length (a.args.zip b.args)
    have hzl : (a.args.zip b.args).length ≤ 4 := by rw [List.length_zip]; omega
    rw [haL]
    refine awp_skip ?_; refine thenQ_nil ?_; refine awp_seq ?_; refine awp_seq ?_; refine awp_region ?_; refine awps_stp0 rfl rfl (by decide) (stp_move (.inl rfl) rfl) ?_; refine awps_stp0 rfl rfl (by decide) (stp_len_dat rfl sl_S_unify_pair rfl) ?_; refine awps_stp0 rfl rfl (by decide) (stp_move (.inl rfl) rfl) ?_; refine awps_nil ?_; refine thenQ_nil ?_; refine awp_block ?_
    refine awp_while ((a.args.zip b.args).length) (fun k => k ≤ (a.args.zip b.args).length ∧ (fitL d l ((a.args.zip b.args).take k)).2 = 0) (fun k => ⟨[(0, bdA (fitL d l ((a.args.zip b.args).take k)).1), (52, prA (a.args.zip b.args)), (53, iv (prDs (a.args.zip b.args)).length), (54, iv (k : Int))], []⟩) (⟨by omega, by rw [List.take_zero, fitL]⟩) ?_ (fun k hk hp => ?_)
    · exact sub_re (SubT.cons (lk_eq rfl (by rw [List.take_zero, fitL])) (SubT.cons (lk_eq rfl (by first | rfl | simp)) (SubT.cons (lk_eq rfl (by first | rfl | simp)) (SubT.cons (lk_eq rfl (by first | rfl | simp)) (SubT.nil))))) (SubO.nil) rfl rfl (noL' (noL hL) _)
    have hbk : BOk (fitL d l ((a.args.zip b.args).take k)).1 := fitL_bok d _ l hl fun p hp => by
      have := List.of_mem_zip (List.mem_of_mem_take hp)
      exact ⟨Tm.wfs_mem ha.2.2.2.2 this.1, Tm.wfs_mem hb.2.2.2.2 this.2, may_arg hm this.2⟩
    refine awp_seq ?_; refine awp_region ?_; refine awps_stp0 rfl rfl (by decide) (stp_binI rfl rfl rfl rfl) ?_; refine awps_nil ?_; refine thenQ_nil ?_; refine awp_seq ?_; refine awp_cond rfl (fun c4 => ?_) (fun c4 => ?_)
    · try simp only [↓cqA, cqB] at c4
      obtain ⟨q, hq⟩ := get_of_lt (l := a.args.zip b.args) (k := k) (by omega)
      have hqm := List.of_mem_zip (List.mem_of_getElem? hq)
      have hsn := fitL_snoc d q ((a.args.zip b.args).take k) l hp.2
      rw [← take_snoc hq] at hsn
      refine awp_skip ?_; refine thenQ_nil ?_; refine awp_seq ?_; refine awp_block ?_; refine awp_seq ?_; refine awp_region ?_; refine awps_stp0 rfl rfl (by decide) (stp_indexAddr rfl sl_S_unify_pair rfl rfl (by omega) (prDs_get hq)) ?_; refine awps_stp0 rfl rfl (by decide) (stp_load_elpa rfl tf_unify_pair rfl rfl) ?_
      refine awps_stp1 rfl rfl (by decide) (stp_alloc 13 rfl zv_unify_pair rfl) rfl ?_; refine awps_store rfl rfl rfl tf_unify_pair rfl rfl rfl rfl rfl rfl rfl rfl rfl ?_; refine awps_nil ?_; refine thenQ_nil ?_; refine awp_seq ?_; refine awp_region ?_; refine awps_stp0 rfl rfl (by decide) (stp_move (.inl rfl) rfl) ?_; refine awps_stp0 rfl rfl (by decide) (stp_indexAddr_arr rfl (show arB Tryz.prog 251 2 35 4 = true by kernel_rfl) rfl rfl (by decide) (by decide)) ?_; refine awps_stp0 rfl rfl (by decide) (stp_load rfl tf_api_Term rfl rfl rfl rfl rfl) ?_
      refine awps_stp0 rfl rfl (by decide) (stp_indexAddr_arr rfl (show arB Tryz.prog 251 2 35 4 = true by kernel_rfl) rfl rfl (by decide) (by decide)) ?_; refine awps_stp0 rfl rfl (by decide) (stp_load rfl tf_api_Term rfl rfl rfl rfl rfl) ?_; refine awps_call (avs := [_, _, _]) false rfl rfl rfl (by decide) en_unify_Fit rfl rfl (Fit_ok d (fitL d l ((a.args.zip b.args).take k)).1 q.1 q.2 (h q.1 hqm.1) (hs.arg hqm.1) (Tm.wfs_mem ha.2.2.2.2 hqm.1) hbk (Tm.wfs_mem hb.2.2.2.2 hqm.2) (may_arg hm hqm.2)) rfl rfl ?_; refine awps_stp0 rfl rfl (by decide) (stp_move (.inl rfl) rfl) ?_
      refine awps_stp0 rfl rfl (by decide) (stp_extract rfl rfl rfl) ?_; refine awps_stp0 rfl rfl (by decide) (stp_extract rfl rfl rfl) ?_; refine awps_stp0 rfl rfl (by decide) (stp_move (.inr rfl) rfl) ?_; refine awps_stp0 rfl rfl (by decide) (stp_move (.inr rfl) rfl) ?_; refine awps_nil ?_; refine thenQ_nil ?_; refine awp_seq ?_; refine awp_seq ?_; refine awp_region ?_
      refine awps_stp0 rfl rfl (by decide) (stp_move (.inl rfl) rfl) ?_; refine awps_stp0 rfl rfl (by decide) (stp_binI rfl rfl rfl rfl) ?_; refine awps_nil ?_; refine thenQ_nil ?_; refine awp_cond rfl (fun c5 => ?_) (fun c5 => ?_)
      · try simp only [↓cqA, cqB] at c5
        refine awp_seq ?_; refine awp_region ?_; refine awps_stp0 rfl rfl (by decide) (stp_move (.inl rfl) rfl) ?_; refine awps_stp0 rfl rfl (by decide) (stp_move (.inr rfl) rfl) ?_; refine awps_stp0 rfl rfl (by decide) (stp_move (.inr rfl) rfl) ?_; refine awps_nil ?_; refine thenQ_nil ?_; refine awp_ret ?_; refine thenQ_ret (inQ_ret (thenQ_ret (thenQ_ret (inQ_ret (thenQ_ret (?_))))))
        -- leaf 0F3F4T5T
        refine ret0 (noL hL) (.inl rfl) (resAs_tmp rfl (resAs_tmp rfl (resAs_nil))) ?_ ?_
        · rfl
        refine ⟨?_, rfl⟩
        have e : fitL d l (a.args.zip b.args) = ([], (fitR d (fitL d l ((a.args.zip b.args).take k)).1 q.1 q.2).2) := by
          rw [if_pos c5] at hsn
          have := fitL_stop d ((a.args.zip b.args).take (k + 1)) ((a.args.zip b.args).drop (k + 1)) l (by rw [hsn]; exact c5)
          rw [List.take_append_drop] at this
          rw [this, hsn]
        rw [fitR, if_neg c0, if_pos hab, e]
        exact .inl ⟨rfl, rfl⟩
      try simp only [↓cqA, cqB] at c5
      rw [if_neg (by simp [c5])] at hsn
      refine awp_skip ?_; refine thenQ_nil ?_; refine awp_region ?_; refine awps_stp0 rfl rfl (by decide) (stp_move (.inl rfl) rfl) ?_; refine awps_stp0 rfl rfl (by decide) (stp_move (.inr rfl) rfl) ?_; refine awps_nil ?_; refine inQ_nil ?_; refine thenQ_nil ?_; refine awp_region ?_; refine awps_stp0 rfl rfl (by decide) (stp_add rfl rfl rfl (by omega)) ?_; refine awps_stp0 rfl rfl (by decide) (stp_move (.inl rfl) rfl) ?_; refine awps_nil ?_; refine thenQ_nil ?_; refine ⟨?_, ?_, ?_⟩
      · skip
        omega
      · skip
        exact ⟨by omega, by rw [hsn]⟩
      exact sub_re (SubT.cons (lk_eq rfl (by rw [hsn])) (SubT.cons (lk_eq rfl (by first | rfl | simp)) (SubT.cons (lk_eq rfl (by first | rfl | simp)) (SubT.cons (lk_eq rfl (by first | rfl | simp)) (SubT.nil))))) (SubO.nil) rfl rfl (noL' (noL hL) _)
    try simp only [↓cqA, cqB] at c4
    refine awp_exit ?_; refine thenQ_exit (thenQ_exit (inQ_hit ?_)); refine thenQ_nil ?_; refine awp_seq ?_; refine awp_region ?_; refine awps_stp0 rfl rfl (by decide) (stp_move (.inl rfl) rfl) ?_; refine awps_stp0 rfl rfl (by decide) (stp_move (.inr rfl) rfl) ?_; refine awps_stp0 rfl rfl (by decide) (stp_move (.inr rfl) rfl) ?_; refine awps_nil ?_; refine thenQ_nil ?_; refine awp_ret ?_
    -- leaf 0F3F4F
    refine ret0 (noL hL) (.inl rfl) (resAs_tmp rfl (resAs_tmp rfl (resAs_nil))) ?_ ?_
    · rfl
    refine ⟨?_, rfl⟩
    rw [List.take_of_length_le (by omega)] at hp ⊢
    rw [fitR, if_neg c0, if_pos hab]
    refine .inr ?_
    rw [hp.2]; rfl
end Go.Proofs.YtdecgkhdbfgldaaGreat

set_option linter.unusedVariables false
set_option linter.unusedSimpArgs false
namespace Go.Proofs.YtdecgkhdbfgldaaGreat
open Go
def Gr (t : Tm) : Prop := ∀ y, ¬ t.occ y
theorem Gr.arg {t u : Tm} (h : Gr t) (hu : u ∈ t.args) : Gr u := fun y hy => h y ((Tm.occ_iff _ _).2 (.inr ⟨u, hu, hy⟩))
theorem Gr.sub {t : Tm} (h : Gr t) (hs : t.shp) (g : ByteArray → Tm) : t.sub g = t := sub_id hs fun y hy => absurd hy (h y)
structure GG (l : List Bd) : Prop where
  gb : GB l
  gr : ∀ b ∈ l, Gr b.t
theorem GG_nil : GG [] := ⟨GB_nil, fun b hb => by cases hb⟩
theorem GG.get {l : List Bd} (h : GG l) {y : ByteArray} (hy : hasB l y = true) : Gr (gB l y) ∧ mayT (gB l y) = true := by
  obtain ⟨b, hb, rfl⟩ := (hasB_iff l y).1 hy
  rw [gB_mem h.gb.ris hb]
  exact ⟨h.gr b hb, (h.gb.el b hb).2.2⟩
theorem stand_ground {l : List Bd} (h : GG l) {x : ByteArray} {t : Tm} (hx : varB x = true) (hxs : x.size ≤ 140737488351232) (hw : t.wf) (hm : mayT t = true) (hg : Gr t) (hl : hasB l x = false) (he : standE l x t = 0) :
    GG (standL l x t) ∧ (standL l x t).length = l.length + 1 ∧ (∀ y, hasB l y = true → gB (standL l x t) y = gB l y) ∧ gB (standL l x t) x = t ∧ ∀ y, hasB (standL l x t) y = (hasB l y || decide (x = y)) := by
  obtain ⟨h1, h2, h3, h4⟩ := stand_spec h.gb hx hxs hw hm hl (hg x) (fun y hy => absurd hy (hg y)) he
  have k1 : ∀ y, hasB l y = true → gB (standL l x t) y = gB l y := fun y hy => by
    rw [h3, (h.get hy).1.sub (may_shp (h.get hy).2)]
  have k2 : gB (standL l x t) x = t := by rw [h3, gB_none h.gb.ris hl, varT_sub, gB_one, if_pos rfl]
  refine ⟨⟨h1, fun b hb => ?_⟩, h2, k1, k2, h4⟩
  have e := gB_mem h1.ris hb
  have hh := h4 b.name
  rw [(hasB_iff _ _).2 ⟨b, hb, rfl⟩] at hh
  rw [← e]
  cases hc : hasB l b.name with
  | true => rw [k1 _ hc]; exact (h.get hc).1
  | false =>
    rw [hc] at hh
    have : x = b.name := by simpa using hh.symm
    rw [← this, k2]; exact hg
structure FitOk (l m : List Bd) (occ : ByteArray → Prop) : Prop where
  gg : GG m
  old : ∀ y, hasB l y = true → hasB m y = true ∧ gB m y = gB l y
  dom : ∀ y, hasB m y = true ↔ hasB l y = true ∨ occ y
theorem zip_map {f : Tm → Tm} : ∀ {x y : List Tm}, x.length = y.length → (∀ p ∈ x.zip y, f p.1 = p.2) → x.map f = y
  | [], [], _, _ => rfl
  | a :: x, b :: y, hl, h => by
    rw [List.map_cons, zip_map (x := x) (y := y) (by simpa using hl) fun p hp => h p (by simp [hp]), h (a, b) (by simp)]
  | [], _ :: _, hl, _ => by simp at hl
  | _ :: _, [], hl, _ => by simp at hl
mutual
theorem fit_spec : ∀ (d : Nat) (l : List Bd) (a b : Tm), GG l → a.shp → a.wf → mayT b = true → b.wf → Gr b → (fitR d l a b).2 = 0 → FitOk l (fitR d l a b).1 (fun y => a.occ y) ∧ a.sub (gB (fitR d l a b).1) = b
  | 0, l, a, b, _, _, _, _, _, _, h => by rw [fitR] at h; cases h
  | d + 1, l, a, b, hl, hs, hw, hm, hbw, hg, h => by
    rw [fitR] at h ⊢
    by_cases hk : a.kind = 1
    · rw [if_pos hk] at h ⊢
      have ev := hs.var hk
      have hocc : ∀ y, a.occ y ↔ a.name = y := fun y => by rw [ev.1]; exact varT_occ a.name y
      by_cases hh : hasB l a.name = true
      · rw [if_pos hh] at h ⊢
        by_cases hc : cmpT 5 (lookT l a.name) b = 0
        · rw [if_pos hc]
          obtain ⟨c, hc1, hc2⟩ := (hasB_iff l a.name).1 hh
          have e1 : lookT l a.name = c.t := by rw [← hc2, lookT_mem hl.gb.ris hc1]
          have e2 : gB l a.name = c.t := by rw [← hc2, gB_mem hl.gb.ris hc1]
          have e3 := (eqT_iff 5 _ _ (may_dle (hl.gb.el c hc1).2.2)).1 ((cmpT_zero 5 _ _ (may_dle (hl.gb.el c hc1).2.2)).1 (e1 ▸ hc))
          refine ⟨⟨hl, fun y hy => ⟨hy, rfl⟩, fun y => ⟨fun h => .inl h, ?_⟩⟩, ?_⟩
          · rintro (h | h)
            · exact h
            · rw [hocc] at h; rw [← h]; exact hh
          · rw [Tm.sub_eq, if_pos hk, e2, e3]
        · rw [if_neg hc] at h; cases h
      · rw [if_neg hh] at h ⊢
        have hno : hasB l a.name = false := by simpa using hh
        obtain ⟨g1, g2, g3, g4, g5⟩ := stand_ground hl ev.2 hw.2.1 hbw hm hg hno h
        refine ⟨⟨g1, fun y hy => ⟨by rw [g5, hy]; rfl, g3 y hy⟩, fun y => ?_⟩, ?_⟩
        · rw [g5, Bool.or_eq_true, decide_eq_true_eq, hocc]
        · rw [Tm.sub_eq, if_pos hk]; exact g4
    · rw [if_neg hk] at h ⊢
      by_cases hc : argsB a b = true
      · rw [if_pos hc] at h ⊢
        have hc2 := hc
        simp only [argsB, Bool.and_eq_true, decide_eq_true_eq] at hc2
        obtain ⟨f1, f2⟩ := fits_spec d (a.args.zip b.args) l hl (fun p hp => by
          have := List.of_mem_zip hp
          exact ⟨hs.arg this.1, Tm.wfs_mem hw.2.2.2.2 this.1, may_arg hm this.2, Tm.wfs_mem hbw.2.2.2.2 this.2, hg.arg this.2⟩) h
        refine ⟨⟨f1.gg, f1.old, fun y => ?_⟩, ?_⟩
        · rw [f1.dom, Tm.occ_iff]
          constructor
          · rintro (h | ⟨p, hp, h⟩)
            · exact .inl h
            · exact .inr (.inr ⟨p.1, (List.of_mem_zip hp).1, h⟩)
          · rintro (h | ⟨h, _⟩ | ⟨u, hu, h⟩)
            · exact .inl h
            · exact absurd h hk
            · obtain ⟨i, hi⟩ := List.getElem?_of_mem hu
              obtain ⟨v, hv⟩ := get_of_lt (l := b.args) (k := i) (by have := (List.getElem?_eq_some_iff.1 hi).1; omega)
              exact .inr ⟨(u, v), List.mem_of_getElem? (List.getElem?_zip_eq_some.2 ⟨hi, hv⟩), h⟩
        · rw [Tm.sub_eq, if_neg hk]
          rw [zip_map hc2.2 f2]
          cases a; cases b
          simp only at hc2 ⊢
          obtain ⟨⟨⟨rfl, rfl⟩, rfl⟩, _⟩ := hc2
          rfl
      · rw [if_neg hc] at h; cases h
theorem fits_spec : ∀ (d : Nat) (ps : List (Tm × Tm)) (l : List Bd), GG l → (∀ p ∈ ps, p.1.shp ∧ p.1.wf ∧ mayT p.2 = true ∧ p.2.wf ∧ Gr p.2) → (fitL d l ps).2 = 0 → FitOk l (fitL d l ps).1 (fun y => ∃ p ∈ ps, Tm.occ y p.1) ∧ ∀ p ∈ ps, p.1.sub (gB (fitL d l ps).1) = p.2
  | d, [], l, hl, _, _ => by
    rw [fitL]
    exact ⟨⟨hl, fun y hy => ⟨hy, rfl⟩, fun y => by simp⟩, fun p hp => by cases hp⟩
  | d, p :: ps, l, hl, hp, h => by
    rw [fitL] at h ⊢
    by_cases hc : (fitR d l p.1 p.2).2 = 0
    · rw [if_neg (by simp [hc])] at h ⊢
      obtain ⟨q1, q2, q3, q4, q5⟩ := hp p (by simp)
      obtain ⟨f1, f2⟩ := fit_spec d l p.1 p.2 hl q1 q2 q3 q4 q5 hc
      obtain ⟨g1, g2⟩ := fits_spec d ps _ f1.gg (fun q hq => hp q (by simp [hq])) h
      refine ⟨⟨g1.gg, fun y hy => ?_, fun y => ?_⟩, fun q hq => ?_⟩
      · obtain ⟨a1, a2⟩ := f1.old y hy
        obtain ⟨b1, b2⟩ := g1.old y a1
        exact ⟨b1, b2.trans a2⟩
      · rw [g1.dom, f1.dom]
        simp only [List.mem_cons, exists_eq_or_imp]
        exact or_assoc
      · rcases List.mem_cons.1 hq with rfl | hq
        · refine Eq.trans (sub_congr q.1 fun y hy => ?_) f2
          exact (g1.old y ((f1.dom y).2 (.inr hy))).2
        · exact g2 q hq
    · rw [if_pos hc] at h; exact absurd h hc
end
structure MI (m l : List Bd) (ps : List (Tm × Tm)) : Prop where
  gb : GB l
  le : ∀ y, hasB l y = true → hasB m y = true ∧ gB l y = gB m y
  ps : ∀ p ∈ ps, PK p ∧ Gr p.2 ∧ mayT p.2 = true ∧ p.1.sub (gB m) = p.2 ∧ ∀ y, p.1.occ y → hasB m y = true
theorem MI.gg {m l : List Bd} {ps : List (Tm × Tm)} (hm : GG m) (h : MI m l ps) : GG l := ⟨h.gb, fun b hb => by
  have hh := (hasB_iff l b.name).2 ⟨b, hb, rfl⟩
  obtain ⟨h1, h2⟩ := h.le _ hh
  rw [gB_mem h.gb.ris hb] at h2
  rw [h2]; exact (hm.get h1).1⟩
theorem MI.occ {m l : List Bd} {ps : List (Tm × Tm)} (hm : GG m) (h : MI m l ps) {p : Tm × Tm} (hp : p ∈ ps) {z : ByteArray} (hz : (p.1.sub (gB l)).occ z) : hasB m z = true ∧ hasB l z = false := by
  obtain ⟨h1, h2, h3, h4, h5⟩ := h.ps p hp
  refine ⟨?_, ap_occ h.gb h1.1.1 hz⟩
  obtain ⟨y, hy, hz⟩ := (occ_sub _ z p.1 h1.1.1).1 hz
  cases hc : hasB l y with
  | true => exact absurd hz (((h.gg hm).get hc).1 z)
  | false => rw [gB_none h.gb.ris hc, varT_occ] at hz; rw [← hz]; exact h5 y hy
end Go.Proofs.YtdecgkhdbfgldaaGreat

set_option linter.unusedVariables false
set_option linter.unusedSimpArgs false
set_option maxRecDepth 8000
namespace Go.Proofs.YtdecgkhdbfgldaaGreat
open Go
theorem filter_snoc {α : Type} (p : α → Bool) {l : List α} {k : Nat} {u : α} (hu : l[k]? = some u) : (l.take (k + 1)).filter p = (l.take k).filter p ++ (if p u = true then [u] else []) := by
  rw [take_snoc hu, List.filter_append]
  congr 1
  by_cases h : p u = true <;> simp [h]
end Go.Proofs.YtdecgkhdbfgldaaGreat

set_option linter.unusedVariables false
set_option linter.unusedSimpArgs false
set_option maxRecDepth 8000
namespace Go.Proofs.YtdecgkhdbfgldaaGreat
open Go
def dpA (f : Tm → Int) (l : List Tm) : Int := l.foldl (fun n u => max n (f u)) 0
def dpT : Nat → Tm → Int
  | 0, _ => 0
  | d + 1, t => dpA (dpT d) t.args + 1
theorem dpA_snoc (f : Tm → Int) {l : List Tm} {k : Nat} {u : Tm} (hu : l[k]? = some u) : dpA f (l.take (k + 1)) = max (dpA f (l.take k)) (f u) := by
  rw [take_snoc hu, dpA, List.foldl_append]; rfl
theorem foldmax_le (f : Tm → Int) (m : Int) : ∀ (l : List Tm) (n : Int), 0 ≤ n → n ≤ m → (∀ u ∈ l, 0 ≤ f u ∧ f u ≤ m) → 0 ≤ l.foldl (fun n u => max n (f u)) n ∧ l.foldl (fun n u => max n (f u)) n ≤ m
  | [], n, h0, hn, _ => ⟨h0, hn⟩
  | a :: l, n, h0, hn, h => by
    have h1 := h a (by simp)
    exact foldmax_le f m l (max n (f a)) (by omega) (by omega) fun u hu => h u (by simp [hu])
theorem dpT_range : ∀ (d : Nat) (t : Tm), 0 ≤ dpT d t ∧ dpT d t ≤ d
  | 0, t => by simp [dpT]
  | d + 1, t => by
    have := foldmax_le (dpT d) d t.args 0 (by omega) (by omega) fun u _ => dpT_range d u
    simp only [dpT, dpA]; omega
theorem dpA_range (d : Nat) (l : List Tm) : 0 ≤ dpA (dpT d) l ∧ dpA (dpT d) l ≤ d := foldmax_le (dpT d) d l 0 (by omega) (by omega) fun u _ => dpT_range d u
theorem deep_ok : ∀ (d : Nat) (t : Tm), d ≤ 100 → dle d t → t.wf → PF 200 [tmA false t] (iv (dpT d t))
  | 0, t, _, h, _ => h.elim
  | d + 1, t, h9, h, ht => by
    have hlen := tmDs_length t.args
    have hal := ht.2.2.2.1
    refine AC_intro Tryz.func200 rfl Tryz.ntmps200 (Nat.le_of_ble_eq_true rfl) fun c hL hQ hDD => ?_; refine awp_seq ?_; refine awp_region ?_; refine awps_stp1 rfl rfl (by decide) (stp_box 1 rfl rfl rfl) rfl ?_; refine awps_stp0 rfl rfl (by decide) (stp_move (.inr rfl) rfl) ?_; refine awps_nil ?_; refine thenQ_nil ?_; refine awp_seq ?_; refine awp_region ?_; refine awps_stp0 rfl rfl (by decide) (stp_move (.inr rfl) rfl) ?_; refine awps_nil ?_; refine thenQ_nil ?_; refine awp_seq ?_; refine awp_seq ?_; refine awp_region ?_
    refine awps_stp0 rfl rfl (by decide) (stp_fieldAddr rfl fo_api_Term_3 rfl) ?_; refine awps_stp0 rfl rfl (by decide) (stp_load rfl tf_S_api_Term rfl rfl rfl rfl rfl) ?_; refine awps_stp0 rfl rfl (by decide) (stp_len_dat rfl sl_S_api_Term rfl) ?_
    refine awps_stp0 rfl rfl (by decide) (stp_move (.inl rfl) rfl) ?_; refine awps_nil ?_; refine thenQ_nil ?_; refine awp_block ?_; refine awp_while (t.args.length) (fun k => k ≤ t.args.length) (fun k => ⟨[(3, iv (dpA (dpT d) (t.args.take k))), (7, .dat false 4 (tmDs t.args)), (8, iv (tmDs t.args).length), (9, iv (k : Int))], []⟩) (by omega) ?_ (fun k hk hp => ?_)
    · exact sub_re (SubT.cons (lk_eq rfl (by first | rfl | simp)) (SubT.cons (lk_eq rfl (by first | rfl | simp)) (SubT.cons (lk_eq rfl (by first | rfl | simp)) (SubT.cons (lk_eq rfl (by first | rfl | simp)) (SubT.nil))))) (SubO.nil) rfl rfl (noL' (noL hL) _)
    have hdr := dpA_range d (t.args.take k)
    refine awp_seq ?_; refine awp_region ?_; refine awps_stp0 rfl rfl (by decide) (stp_binI rfl rfl rfl rfl) ?_; refine awps_nil ?_; refine thenQ_nil ?_; refine awp_seq ?_; refine awp_cond rfl (fun c0 => ?_) (fun c0 => ?_)
    · try simp only [↓cqA, cqB] at c0
      obtain ⟨u, hu⟩ := get_of_lt (l := t.args) (k := k) (by omega)
      have hum := List.mem_of_getElem? hu
      have hmx := dpA_snoc (dpT d) hu
      refine awp_skip ?_; refine thenQ_nil ?_; refine awp_seq ?_; refine awp_block ?_; refine awp_seq ?_; refine awp_region ?_; refine awps_stp0 rfl rfl (by decide) (stp_indexAddr rfl sl_S_api_Term rfl rfl (by omega) (tmDs_get hu)) ?_; refine awps_stp0 rfl rfl (by decide) (stp_load_elpa rfl tf_api_Term rfl rfl) ?_
      refine awps_stp1 rfl rfl (by decide) (stp_alloc 5 rfl zv_api_Term rfl) rfl ?_; refine awps_store rfl rfl rfl tf_api_Term rfl rfl rfl rfl rfl rfl rfl rfl rfl ?_; refine awps_nil ?_; refine thenQ_nil ?_; refine awp_region ?_; refine awps_stp0 rfl rfl (by decide) (stp_move (.inl rfl) rfl) ?_; refine awps_stp0 rfl rfl (by decide) (stp_load_all rfl tf_api_Term rfl rfl rfl rfl) ?_
      refine awps_call (avs := [_]) true rfl rfl rfl (by decide) en_term_deep rfl rfl (deep_ok d u (by omega) (h u hum) (Tm.wfs_mem ht.2.2.2.2 hum)) rfl rfl ?_; refine awps_stp0 rfl rfl (by decide) (stp_max rfl rfl rfl) ?_; refine awps_stp0 rfl rfl (by decide) (stp_move (.inr rfl) rfl) ?_; refine awps_nil ?_; refine inQ_nil ?_; refine thenQ_nil ?_; refine awp_region ?_; refine awps_stp0 rfl rfl (by decide) (stp_add rfl rfl rfl (by omega)) ?_; refine awps_stp0 rfl rfl (by decide) (stp_move (.inl rfl) rfl) ?_; refine awps_nil ?_; refine thenQ_nil ?_; refine ⟨?_, ?_, ?_⟩
      · skip
        omega
      · skip
        omega
      exact sub_re (SubT.cons (lk_eq rfl (by exact int_imm (by rw [hmx]; split <;> omega))) (SubT.cons (lk_eq rfl (by first | rfl | simp)) (SubT.cons (lk_eq rfl (by first | rfl | simp)) (SubT.cons (lk_eq rfl (by first | rfl | simp)) (SubT.nil))))) (SubO.nil) rfl rfl (noL' (noL hL) _)
    try simp only [↓cqA, cqB] at c0
    refine awp_exit ?_; refine thenQ_exit (thenQ_exit (inQ_hit ?_)); refine thenQ_nil ?_; refine awp_seq ?_; refine awp_region ?_; refine awps_stp0 rfl rfl (by decide) (stp_move (.inl rfl) rfl) ?_; refine awps_stp0 rfl rfl (by decide) (stp_add rfl rfl rfl (by omega)) ?_; refine awps_stp0 rfl rfl (by decide) (stp_move (.inr rfl) rfl) ?_; refine awps_nil ?_; refine thenQ_nil ?_; refine awp_ret ?_
    -- leaf 0F
    refine ret0 (noL hL) (.inl rfl) (resAs_tmp rfl (resAs_nil)) ?_ ?_
    · rfl
    refine ⟨int_w ?_, rfl⟩
    rw [List.take_of_length_le (by omega)]; rfl
def flatB (t : Tm) : Bool := decide (t.kind = 3) && decide (dpT 5 t ≤ 2)
theorem Flat_ok (t : Tm) (h : dle 5 t) (ht : t.wf) : PF 138 [tmA false t] (bv (flatB t)) := by
  refine AC_intro Tryz.func138 rfl Tryz.ntmps138 (Nat.le_of_ble_eq_true rfl) fun c hL hQ hDD => ?_; refine awp_seq ?_; refine awp_region ?_; refine awps_stp1 rfl rfl (by decide) (stp_box 1 rfl rfl rfl) rfl ?_; refine awps_stp0 rfl rfl (by decide) (stp_move (.inr rfl) rfl) ?_; refine awps_nil ?_; refine thenQ_nil ?_; refine awp_seq ?_; refine awp_region ?_; refine awps_stp0 rfl rfl (by decide) (stp_fieldAddr rfl fo_api_Term_0 rfl) ?_; refine awps_stp0 rfl rfl (by decide) (stp_load rfl tf_int rfl rfl rfl rfl rfl) ?_
  refine awps_stp0 rfl rfl (by decide) (stp_binI rfl rfl rfl rfl) ?_; refine awps_stp0 rfl rfl (by decide) (stp_move (.inl rfl) rfl) ?_; refine awps_split 6 rfl (fun g6 => ?_) (fun g6 => ?_)
  · try simp only [↓cqA, cqB] at g6
    refine awps_g0 rfl rfl rfl (by decide) rfl (by decide) (stp_load_all rfl tf_api_Term rfl rfl rfl rfl) ?_; refine awps_g0 rfl rfl rfl (by decide) rfl (by decide) (stp_call (avs := [_]) true rfl en_term_deep rfl rfl (deep_ok 5 t (by omega) h ht) (fun _ => rfl) rfl) ?_; refine awps_g0 rfl rfl rfl (by decide) rfl (by decide) (stp_binI rfl rfl rfl rfl) ?_; refine awps_stp0 rfl rfl (by decide) (stp_pick rfl rfl rfl) ?_; refine awps_stp0 rfl rfl (by decide) (stp_move (.inr rfl) rfl) ?_; refine awps_nil ?_; refine thenQ_nil ?_; refine awp_ret ?_
    -- leaf g6T
    refine ret0 (noL hL) (.inl rfl) (resAs_tmp rfl (resAs_nil)) ?_ ?_
    · rfl
    refine ⟨bool_w ?_, rfl⟩
    simp_all [flatB]
  try simp only [↓cqA, cqB] at g6
  refine awps_gs rfl rfl rfl rfl (by decide) rfl (by decide) ?_; refine awps_gs rfl rfl rfl rfl (by decide) rfl (by decide) ?_; refine awps_gs rfl rfl rfl rfl (by decide) rfl (by decide) ?_; refine awps_stp0 rfl rfl (by decide) (stp_pick rfl rfl rfl) ?_; refine awps_stp0 rfl rfl (by decide) (stp_move (.inr rfl) rfl) ?_; refine awps_nil ?_; refine thenQ_nil ?_; refine awp_ret ?_
  -- leaf g6F
  refine ret0 (noL hL) (.inl rfl) (resAs_tmp rfl (resAs_nil)) ?_ ?_
  · rfl
  refine ⟨bool_w ?_, rfl⟩
  simp_all [flatB]
theorem showAtom_ok (t : Tm) (ht : t.wf) : PF 166 [tmA false t] (bv (mayT t && flatB t)) := by
  refine AC_intro Tryz.func166 rfl Tryz.ntmps166 (Nat.le_of_ble_eq_true rfl) fun c hL hQ hDD => ?_; refine awp_seq ?_; refine awp_region ?_; refine awps_stp1 rfl rfl (by decide) (stp_box 1 rfl rfl rfl) rfl ?_; refine awps_stp0 rfl rfl (by decide) (stp_move (.inr rfl) rfl) ?_; refine awps_nil ?_; refine thenQ_nil ?_; refine awp_seq ?_; refine awp_region ?_; refine awps_stp0 rfl rfl (by decide) (stp_load_all rfl tf_api_Term rfl rfl rfl rfl) ?_
  refine awps_call (avs := [_]) true rfl rfl rfl (by decide) en_term_May rfl rfl (May_ok t ht) rfl rfl ?_; refine awps_stp0 rfl rfl (by decide) (stp_move (.inl rfl) rfl) ?_; refine awps_split 5 rfl (fun g5 => ?_) (fun g5 => ?_)
  · try simp only [↓cqA, cqB] at g5
    refine awps_g0 rfl rfl rfl (by decide) rfl (by decide) (stp_load_all rfl tf_api_Term rfl rfl rfl rfl) ?_; refine awps_g0 rfl rfl rfl (by decide) rfl (by decide) (stp_call (avs := [_]) true rfl en_term_Flat rfl rfl (Flat_ok t (mayT_dle (by assumption)).1 ht) (fun _ => rfl) rfl) ?_; refine awps_stp0 rfl rfl (by decide) (stp_pick rfl rfl rfl) ?_; refine awps_stp0 rfl rfl (by decide) (stp_move (.inr rfl) rfl) ?_; refine awps_nil ?_; refine thenQ_nil ?_; refine awp_ret ?_
    -- leaf g5T
    refine ret0 (noL hL) (.inl rfl) (resAs_tmp rfl (resAs_nil)) ?_ ?_
    · rfl
    refine ⟨bool_w ?_, rfl⟩
    simp_all
  try simp only [↓cqA, cqB] at g5
  refine awps_gs rfl rfl rfl rfl (by decide) rfl (by decide) ?_; refine awps_gs rfl rfl rfl rfl (by decide) rfl (by decide) ?_; refine awps_stp0 rfl rfl (by decide) (stp_pick rfl rfl rfl) ?_; refine awps_stp0 rfl rfl (by decide) (stp_move (.inr rfl) rfl) ?_; refine awps_nil ?_; refine thenQ_nil ?_; refine awp_ret ?_
  -- leaf g5F
  refine ret0 (noL hL) (.inl rfl) (resAs_tmp rfl (resAs_nil)) ?_ ?_
  · rfl
  refine ⟨bool_w ?_, rfl⟩
  simp_all
def cmpsB (g : Gd) : Bool := decide (1 ≤ g.kind) && decide (g.kind ≤ 4) && mayT g.l && mayT g.r
theorem showCompares_ok (g : Gd) (hg : g.wf) : PF 168 [.agg (lift false (gdD g))] (bv (cmpsB g)) := by
  have h1 := hg.2.1
  have h2 := hg.2.2
  refine AC_intro Tryz.func168 rfl Tryz.ntmps168 (Nat.le_of_ble_eq_true rfl) fun c hL hQ hDD => ?_; refine awp_seq ?_; refine awp_region ?_; refine awps_stp1 rfl rfl (by decide) (stp_box 1 rfl rfl rfl) rfl ?_; refine awps_stp0 rfl rfl (by decide) (stp_move (.inr rfl) rfl) ?_; refine awps_nil ?_; refine thenQ_nil ?_; refine awp_seq ?_; refine awp_region ?_; refine awps_stp0 rfl rfl (by decide) (stp_fieldAddr rfl fo_api_Guard_0 rfl) ?_; refine awps_stp0 rfl rfl (by decide) (stp_load rfl tf_int rfl rfl rfl rfl rfl) ?_
  refine awps_stp0 rfl rfl (by decide) (stp_binI rfl rfl rfl rfl) ?_; refine awps_stp0 rfl rfl (by decide) (stp_move (.inl rfl) rfl) ?_; refine awps_split 6 rfl (fun g6 => ?_) (fun g6 => ?_)
  · try simp only [↓cqA, cqB] at g6
    refine awps_g0 rfl rfl rfl (by decide) rfl (by decide) (stp_fieldAddr rfl fo_api_Guard_0 rfl) ?_; refine awps_g0 rfl rfl rfl (by decide) rfl (by decide) (stp_load rfl tf_int rfl rfl rfl rfl rfl) ?_; refine awps_g0 rfl rfl rfl (by decide) rfl (by decide) (stp_binI rfl rfl rfl rfl) ?_; refine awps_stp0 rfl rfl (by decide) (stp_pick rfl rfl rfl) ?_; refine awps_stp0 rfl rfl (by decide) (stp_move (.inl rfl) rfl) ?_; refine awps_split 11 rfl (fun g11 => ?_) (fun g11 => ?_)
    · try simp only [↓cqA, cqB] at g11
      refine awps_g0 rfl rfl rfl (by decide) rfl (by decide) (stp_fieldAddr rfl fo_api_Guard_1 rfl) ?_; refine awps_g0 rfl rfl rfl (by decide) rfl (by decide) (stp_load rfl tf_api_Term rfl rfl rfl rfl rfl) ?_; refine awps_g0 rfl rfl rfl (by decide) rfl (by decide) (stp_call (avs := [_]) true rfl en_term_May rfl rfl (May_ok g.l h1) (fun _ => rfl) rfl) ?_; refine awps_stp0 rfl rfl (by decide) (stp_pick rfl rfl rfl) ?_; refine awps_stp0 rfl rfl (by decide) (stp_move (.inl rfl) rfl) ?_; refine awps_split 16 rfl (fun g16 => ?_) (fun g16 => ?_)
      · try simp only [↓cqA, cqB] at g16
        refine awps_g0 rfl rfl rfl (by decide) rfl (by decide) (stp_fieldAddr rfl fo_api_Guard_2 rfl) ?_; refine awps_g0 rfl rfl rfl (by decide) rfl (by decide) (stp_load rfl tf_api_Term rfl rfl rfl rfl rfl) ?_; refine awps_g0 rfl rfl rfl (by decide) rfl (by decide) (stp_call (avs := [_]) true rfl en_term_May rfl rfl (May_ok g.r h2) (fun _ => rfl) rfl) ?_; refine awps_stp0 rfl rfl (by decide) (stp_pick rfl rfl rfl) ?_; refine awps_stp0 rfl rfl (by decide) (stp_move (.inr rfl) rfl) ?_; refine awps_nil ?_; refine thenQ_nil ?_; refine awp_ret ?_
        -- leaf g6Tg11Tg16T
        refine ret0 (noL hL) (.inl rfl) (resAs_tmp rfl (resAs_nil)) ?_ ?_
        · rfl
        refine ⟨bool_w ?_, rfl⟩
        simp_all [cmpsB]
        try omega
      try simp only [↓cqA, cqB] at g16
      refine awps_gs rfl rfl rfl rfl (by decide) rfl (by decide) ?_; refine awps_gs rfl rfl rfl rfl (by decide) rfl (by decide) ?_; refine awps_gs rfl rfl rfl rfl (by decide) rfl (by decide) ?_; refine awps_stp0 rfl rfl (by decide) (stp_pick rfl rfl rfl) ?_; refine awps_stp0 rfl rfl (by decide) (stp_move (.inr rfl) rfl) ?_; refine awps_nil ?_; refine thenQ_nil ?_; refine awp_ret ?_
      -- leaf g6Tg11Tg16F
      refine ret0 (noL hL) (.inl rfl) (resAs_tmp rfl (resAs_nil)) ?_ ?_
      · rfl
      refine ⟨bool_w ?_, rfl⟩
      simp_all [cmpsB]
      try omega
    try simp only [↓cqA, cqB] at g11
    refine awps_gs rfl rfl rfl rfl (by decide) rfl (by decide) ?_; refine awps_gs rfl rfl rfl rfl (by decide) rfl (by decide) ?_; refine awps_gs rfl rfl rfl rfl (by decide) rfl (by decide) ?_; refine awps_stp0 rfl rfl (by decide) (stp_pick rfl rfl rfl) ?_; refine awps_stp0 rfl rfl (by decide) (stp_move (.inl rfl) rfl) ?_; refine awps_gs rfl rfl rfl rfl (by decide) rfl (by decide) ?_
    refine awps_gs rfl rfl rfl rfl (by decide) rfl (by decide) ?_; refine awps_gs rfl rfl rfl rfl (by decide) rfl (by decide) ?_; refine awps_stp0 rfl rfl (by decide) (stp_pick rfl rfl rfl) ?_; refine awps_stp0 rfl rfl (by decide) (stp_move (.inr rfl) rfl) ?_; refine awps_nil ?_; refine thenQ_nil ?_; refine awp_ret ?_
    -- leaf g6Tg11F
    refine ret0 (noL hL) (.inl rfl) (resAs_tmp rfl (resAs_nil)) ?_ ?_
    · rfl
    refine ⟨bool_w ?_, rfl⟩
    simp_all [cmpsB]
    try omega
  try simp only [↓cqA, cqB] at g6
  refine awps_gs rfl rfl rfl rfl (by decide) rfl (by decide) ?_; refine awps_gs rfl rfl rfl rfl (by decide) rfl (by decide) ?_; refine awps_gs rfl rfl rfl rfl (by decide) rfl (by decide) ?_; refine awps_stp0 rfl rfl (by decide) (stp_pick rfl rfl rfl) ?_; refine awps_stp0 rfl rfl (by decide) (stp_move (.inl rfl) rfl) ?_; refine awps_gs rfl rfl rfl rfl (by decide) rfl (by decide) ?_
  refine awps_gs rfl rfl rfl rfl (by decide) rfl (by decide) ?_; refine awps_gs rfl rfl rfl rfl (by decide) rfl (by decide) ?_; refine awps_stp0 rfl rfl (by decide) (stp_pick rfl rfl rfl) ?_; refine awps_stp0 rfl rfl (by decide) (stp_move (.inl rfl) rfl) ?_; refine awps_gs rfl rfl rfl rfl (by decide) rfl (by decide) ?_; refine awps_gs rfl rfl rfl rfl (by decide) rfl (by decide) ?_
  refine awps_gs rfl rfl rfl rfl (by decide) rfl (by decide) ?_; refine awps_stp0 rfl rfl (by decide) (stp_pick rfl rfl rfl) ?_; refine awps_stp0 rfl rfl (by decide) (stp_move (.inr rfl) rfl) ?_; refine awps_nil ?_; refine thenQ_nil ?_; refine awp_ret ?_
  -- leaf g6F
  refine ret0 (noL hL) (.inl rfl) (resAs_tmp rfl (resAs_nil)) ?_ ?_
  · rfl
  refine ⟨bool_w ?_, rfl⟩
  simp_all [cmpsB]
  try omega
theorem IndexFunc_gd_ok (B : Bool) (ts : List Gd) (es : List (List D)) (hes : es = ts.map gdD) (hlen : ts.length ≤ 140737488351232) (g : FuncId) (caps : List AV) (hen : Enters Tryz.prog g) (Os : Nat → List (Nat × Ob)) (p : Nat → Bool) (hO : Thread B caps Os)
    (hstep : ∀ k u, ts[k]? = some u → (∀ j, j < k → p j = false) → AC Tryz.prog g ((fun g => .agg (lift false (gdD g))) u :: caps) (Os k) (fun r O => r = bv (p k) ∧ O = Os (k + 1))) :
    AC Tryz.prog 216 [.dat false 9 es, .fn g caps] (Os 0) (fun r O => ∃ m n i, m ≤ ts.length ∧ (∀ j, j < m → p j = false) ∧ ((m < ts.length ∧ p m = true ∧ i = (m : Int) ∧ n = m + 1) ∨ (m = ts.length ∧ i = -1 ∧ n = m)) ∧ r = iv i ∧ O = Os n) := by
  have hl : es.length = ts.length := by rw [hes, List.length_map]
  refine AC_intro Tryz.func216 rfl Tryz.ntmps216 (Nat.le_of_ble_eq_true rfl) fun c hL hQ hDD => ?_; refine awp_seq ?_; refine awp_region ?_; refine awps_stp0 rfl rfl (by decide) (stp_move (.inr rfl) rfl) ?_; refine awps_nil ?_; refine thenQ_nil ?_; refine awp_seq ?_; refine awp_seq ?_; refine awp_region ?_; refine awps_stp0 rfl rfl (by decide) (stp_move (.inl rfl) rfl) ?_; refine awps_stp0 rfl rfl (by decide) (stp_len_dat rfl sl_S_api_Guard rfl) ?_
  refine awps_stp0 rfl rfl (by decide) (stp_move (.inl rfl) rfl) ?_; refine awps_nil ?_; refine thenQ_nil ?_; refine awp_block ?_; refine awp_while (ts.length) (fun k => k ≤ ts.length ∧ ∀ j, j < k → p j = false) (fun k => ⟨[(0, .dat false 9 es), (1, .fn g caps), (7, iv es.length), (8, iv (k : Int))], Os k⟩) (⟨by omega, fun j hj => absurd hj (by omega)⟩) ?_ (fun k hk hp => ?_)
  · exact sub_re (SubT.cons (lk_eq rfl (by first | rfl | simp)) (SubT.cons (lk_eq rfl (by first | rfl | simp)) (SubT.cons (lk_eq rfl (by first | rfl | simp)) (SubT.cons (lk_eq rfl (by first | rfl | simp)) (SubT.nil))))) (fun _ _ h => h) (by simp [allT, AV.allL, hO.all]) (hO.self _) (fun l hl => by rw [hO.dom]; exact (hL l).1 hl)
  refine awp_seq ?_; refine awp_region ?_; refine awps_stp0 rfl rfl (by decide) (stp_binI rfl rfl rfl rfl) ?_; refine awps_nil ?_; refine thenQ_nil ?_; refine awp_seq ?_; refine awp_cond rfl (fun c0 => ?_) (fun c0 => ?_)
  · try simp only [↓cqA, cqB] at c0
    obtain ⟨u, hu⟩ := get_of_lt (l := ts) (k := k) (by omega)
    refine awp_skip ?_; refine thenQ_nil ?_; refine awp_seq ?_; refine awp_block ?_; refine awp_seq ?_; refine awp_region ?_; refine awps_stp0 rfl rfl (by decide) (stp_move (.inl rfl) rfl) ?_; refine awps_stp0 rfl rfl (by decide) (stp_move (.inr rfl) rfl) ?_; refine awps_nil ?_; refine thenQ_nil ?_; refine awp_seq ?_; refine awp_region ?_; refine awps_stp0 rfl rfl (by decide) (stp_move (.inl rfl) rfl) ?_; refine awps_stp0 rfl rfl (by decide) (stp_move (.inl rfl) rfl) ?_; refine awps_stp0 rfl rfl (by decide) (stp_move (.inl rfl) rfl) ?_
    refine awps_stp0 rfl rfl (by decide) (stp_indexAddr rfl sl_S_api_Guard rfl rfl (by omega) (by rw [hes, List.getElem?_map]; exact congrArg (Option.map gdD) hu)) ?_; refine awps_stp0 rfl rfl (by decide) (stp_load_elpa rfl tf_api_Guard rfl rfl) ?_; refine awps_callP (avs := [_]) B rfl rfl rfl (by decide) hen rfl rfl (hstep k u hu hp.2) (by rw [List.cons_append, List.nil_append]; simp only [AV.cvs, hO.cvs]; rfl) (hO.pass k) (by rintro r O' ⟨_, rfl⟩ l hl; left; rw [hO.dom] at hl ⊢; exact hl) (by rintro hB r O' ⟨rfl, rfl⟩; exact ⟨rfl, hO.q hB _⟩) ?_
    rintro r O' ⟨rfl, rfl⟩
    refine awps_nil ?_; refine thenQ_nil ?_; refine awp_cond rfl (fun c1 => ?_) (fun c1 => ?_)
    · try simp only [↓cqA, cqB] at c1
      refine awp_seq ?_; refine awp_region ?_; refine awps_stp0 rfl rfl (by decide) (stp_move (.inl rfl) rfl) ?_; refine awps_stp0 rfl rfl (by decide) (stp_move (.inr rfl) rfl) ?_; refine awps_nil ?_; refine thenQ_nil ?_; refine awp_ret ?_; refine inQ_ret (thenQ_ret (thenQ_ret (inQ_ret (thenQ_ret (?_)))))
      change retQ _ _ _ _ _ _ _
      refine retO (.inl rfl) (resAs_tmp rfl resAs_nil) SubO.left rfl (hO.self _) (fun l hl => by rw [hO.dom]; exact (hL l).1 hl) ?_
      exact ⟨k, _, _, by omega, hp.2, .inl ⟨by omega, c1, rfl, rfl⟩, rfl, rfl⟩
    try simp only [↓cqA, cqB] at c1
    refine awp_skip ?_; refine inQ_nil ?_; refine thenQ_nil ?_; refine awp_region ?_; refine awps_stp0 rfl rfl (by decide) (stp_add rfl rfl rfl (by omega)) ?_; refine awps_stp0 rfl rfl (by decide) (stp_move (.inl rfl) rfl) ?_; refine awps_nil ?_; refine thenQ_nil ?_; refine ⟨?_, ?_, ?_⟩
    · skip
      omega
    · skip
      refine ⟨by omega, fun j hj => ?_⟩
      by_cases hjk : j < k
      · exact hp.2 j hjk
      · rw [show j = k by omega]; exact c1
    exact sub_re (SubT.cons (lk_eq rfl (by first | rfl | simp)) (SubT.cons (lk_eq rfl (by first | rfl | simp)) (SubT.cons (lk_eq rfl (by first | rfl | simp)) (SubT.cons (lk_eq rfl (by first | rfl | simp)) (SubT.nil))))) (SubO.left) (by simp [allT, AV.allL, hO.all]) (hO.self _) (fun l hl => by rw [hO.dom]; exact (hL l).1 hl)
  try simp only [↓cqA, cqB] at c0
  refine awp_exit ?_; refine thenQ_exit (thenQ_exit (inQ_hit ?_)); refine thenQ_nil ?_; refine awp_seq ?_; refine awp_region ?_; refine awps_stp0 rfl rfl (by decide) (stp_move (.inr rfl) rfl) ?_; refine awps_nil ?_; refine thenQ_nil ?_; refine awp_ret ?_
  change retQ _ _ _ _ _ _ _
  refine retO (.inl rfl) (resAs_tmp rfl resAs_nil) (fun _ _ h => h) rfl (hO.self _) (fun l hl => by rw [hO.dom]; exact (hL l).1 hl) ?_
  exact ⟨k, _, _, by omega, hp.2, .inr ⟨by omega, rfl, rfl⟩, rfl, rfl⟩
theorem ContainsFunc_gd_ok (B : Bool) (ts : List Gd) (es : List (List D)) (hes : es = ts.map gdD) (hlen : ts.length ≤ 140737488351232) (g : FuncId) (caps : List AV) (hen : Enters Tryz.prog g) (Os : Nat → List (Nat × Ob)) (p : Nat → Bool) (hO : Thread B caps Os)
    (hstep : ∀ k u, ts[k]? = some u → (∀ j, j < k → p j = false) → AC Tryz.prog g ((fun g => .agg (lift false (gdD g))) u :: caps) (Os k) (fun r O => r = bv (p k) ∧ O = Os (k + 1))) :
    AC Tryz.prog 169 [.dat false 9 es, .fn g caps] (Os 0) (fun r O => ∃ m n b, m ≤ ts.length ∧ (∀ j, j < m → p j = false) ∧ ((m < ts.length ∧ p m = true ∧ b = true ∧ n = m + 1) ∨ (m = ts.length ∧ b = false ∧ n = m)) ∧ r = bv b ∧ O = Os n) := by
  refine AC_intro Tryz.func169 rfl Tryz.ntmps169 (Nat.le_of_ble_eq_true rfl) fun c hL hQ hDD => ?_; refine awp_seq ?_; refine awp_region ?_; refine awps_stp0 rfl rfl (by decide) (stp_move (.inr rfl) rfl) ?_; refine awps_nil ?_; refine thenQ_nil ?_; refine awp_seq ?_; refine awp_region ?_; refine awps_stp0 rfl rfl (by decide) (stp_move (.inl rfl) rfl) ?_; refine awps_stp0 rfl rfl (by decide) (stp_move (.inl rfl) rfl) ?_
  refine awps_callP (avs := [_, _]) B rfl rfl rfl (by decide) en_slices_IndexFunc_api_Guard_api_Guard rfl rfl (IndexFunc_gd_ok B ts es hes hlen g caps hen Os p hO hstep) (by simp only [List.append_nil, AV.cvs, AV.cv, hO.cvs]; rfl) (hO.pass 0) (by rintro r O' ⟨m, n, i, _, _, _, _, rfl⟩ l hl; left; rw [hO.dom] at hl ⊢; exact hl) (by rintro hB r O' ⟨m, n, i, _, _, _, rfl, rfl⟩; exact ⟨rfl, hO.q hB _⟩) ?_
  rintro r O' ⟨m, n, i, hm, hf, hc, rfl, rfl⟩
  refine awps_stp0 rfl rfl (by decide) (stp_binI rfl rfl rfl rfl) ?_; refine awps_stp0 rfl rfl (by decide) (stp_move (.inr rfl) rfl) ?_; refine awps_nil ?_; refine thenQ_nil ?_; refine awp_ret ?_
  -- leaf 
  change retQ _ _ _ _ _ _ _
  refine retO (.inl rfl) (resAs_tmp rfl resAs_nil) SubO.left rfl (hO.self _) (fun l hl => by rw [hO.dom]; exact (hL l).1 hl) ?_; refine ⟨m, n, _, hm, hf, ?_, rfl, rfl⟩
  rcases hc with ⟨h1, h2, rfl, h3⟩ | ⟨h1, rfl, h3⟩
  · exact .inl ⟨h1, h2, by simp, h3⟩
  · exact .inr ⟨h1, by simp, h3⟩
def atomK (k : List Tm) (i : Nat) : Bool := match k[i]? with
  | some t => mayT t && flatB t && groundB t && (decide (i = 0) || match k[i - 1]? with | some u => decide (cmpT 5 u t < 0) | none => true)
  | none => true
def atomsB (k : List Tm) : Bool := decide (k.length ≤ 60) && (List.range k.length).all (atomK k)
theorem knownAtoms_ok (l : List Tm) (hl : lenOk l) (hw : Tm.wfs l) : PF 109 [.dat false 4 (tmDs l)] (bv (atomsB l)) := by
  have hlen := tmDs_length l
  simp only [lenOk] at hl
  refine AC_intro Tryz.func109 rfl Tryz.ntmps109 (Nat.le_of_ble_eq_true rfl) fun c hL hQ hDD => ?_; refine awp_seq ?_; refine awp_region ?_; refine awps_stp0 rfl rfl (by decide) (stp_move (.inr rfl) rfl) ?_; refine awps_nil ?_; refine thenQ_nil ?_; refine awp_seq ?_; refine awp_seq ?_; refine awp_region ?_; refine awps_stp0 rfl rfl (by decide) (stp_move (.inl rfl) rfl) ?_; refine awps_stp0 rfl rfl (by decide) (stp_len_dat rfl sl_S_api_Term rfl) ?_
  refine awps_stp0 rfl rfl (by decide) (stp_binI rfl rfl rfl rfl) ?_; refine awps_nil ?_; refine thenQ_nil ?_; refine awp_cond rfl (fun c0 => ?_) (fun c0 => ?_)
  · try simp only [↓cqA, cqB] at c0
    refine awp_seq ?_; refine awp_region ?_; refine awps_stp0 rfl rfl (by decide) (stp_move (.inr rfl) rfl) ?_; refine awps_nil ?_; refine thenQ_nil ?_; refine awp_ret ?_; refine thenQ_ret (?_)
    -- leaf 0T
    refine ret0 (noL hL) (.inl rfl) (resAs_tmp rfl (resAs_nil)) ?_ ?_
    · rfl
    refine ⟨bool_w ?_, rfl⟩
    rw [atomsB, decide_eq_false (by omega)]; rfl
  try simp only [↓cqA, cqB] at c0
  refine awp_skip ?_; refine thenQ_nil ?_; refine awp_seq ?_; refine awp_seq ?_; refine awp_region ?_; refine awps_stp0 rfl rfl (by decide) (stp_move (.inl rfl) rfl) ?_; refine awps_stp0 rfl rfl (by decide) (stp_len_dat rfl sl_S_api_Term rfl) ?_; refine awps_stp0 rfl rfl (by decide) (stp_move (.inl rfl) rfl) ?_; refine awps_nil ?_; refine thenQ_nil ?_; refine awp_block ?_
  refine awp_while (l.length) (fun k => k ≤ l.length ∧ ∀ j, j < k → atomK l j = true) (fun k => ⟨[(0, .dat false 4 (tmDs l)), (8, .dat false 4 (tmDs l)), (9, iv (tmDs l).length), (10, iv (k : Int))], []⟩) (⟨by omega, fun j hj => absurd hj (by omega)⟩) ?_ (fun k hk hp => ?_)
  · exact sub_re (SubT.cons (lk_eq rfl (by first | rfl | simp)) (SubT.cons (lk_eq rfl (by first | rfl | simp)) (SubT.cons (lk_eq rfl (by first | rfl | simp)) (SubT.cons (lk_eq rfl (by first | rfl | simp)) (SubT.nil))))) (SubO.nil) rfl rfl (noL' (noL hL) _)
  refine awp_seq ?_; refine awp_region ?_; refine awps_stp0 rfl rfl (by decide) (stp_binI rfl rfl rfl rfl) ?_; refine awps_nil ?_; refine thenQ_nil ?_; refine awp_seq ?_; refine awp_cond rfl (fun c1 => ?_) (fun c1 => ?_)
  · try simp only [↓cqA, cqB] at c1
    obtain ⟨u, hu⟩ := get_of_lt (l := l) (k := k) (by omega)
    have huw := Tm.wfs_get hw hu
    refine awp_skip ?_; refine thenQ_nil ?_; refine awp_seq ?_; refine awp_block ?_; refine awp_seq ?_; refine awp_region ?_; refine awps_stp0 rfl rfl (by decide) (stp_move (.inl rfl) rfl) ?_; refine awps_stp0 rfl rfl (by decide) (stp_indexAddr rfl sl_S_api_Term rfl rfl (by omega) (tmDs_get hu)) ?_; refine awps_stp0 rfl rfl (by decide) (stp_load_elpa rfl tf_api_Term rfl rfl) ?_
    refine awps_stp1 rfl rfl (by decide) (stp_alloc 4 rfl zv_api_Term rfl) rfl ?_; refine awps_stp0 rfl rfl (by decide) (stp_move (.inr rfl) rfl) ?_; refine awps_store rfl rfl rfl tf_api_Term rfl rfl rfl rfl rfl rfl rfl rfl rfl ?_; refine awps_nil ?_; refine thenQ_nil ?_; refine awp_seq ?_
    rcases Bool.eq_false_or_eq_true (mayT u) with l16 | l16
    · have m16 := l16
      try simp only [↓cqA, cqB] at m16
      rcases Bool.eq_false_or_eq_true (flatB u) with l20 | l20
      · have m20 := l20
        try simp only [↓cqA, cqB] at m20
        rcases Bool.eq_false_or_eq_true (groundB u) with l25 | l25
        · have m25 := l25
          try simp only [↓cqA, cqB] at m25
          rcases Bool.eq_false_or_eq_true (decide ((k : Int) > 0)) with l30 | l30
          · have m30 := l30
            try simp only [↓cqA, cqB] at m30
            obtain ⟨v, hv⟩ := get_of_lt (l := l) (k := ((k : Int) - 1).toNat) (by omega)
            have hv2 : l[k - 1]? = some v := by rw [show k - 1 = ((k : Int) - 1).toNat by omega]; exact hv
            have hvw := Tm.wfs_get hw hv
            have hvk := hp.2 (k - 1) (by omega)
            have hvm : mayT v = true := by
              simp only [atomK, hv2, Bool.and_eq_true] at hvk
              exact hvk.1.1.1
            have hke : atomK l k = decide (cmpT 5 v u < 0) := by
              simp only [atomK, hu, hv2]
              simp [m16, m20, m25, show ¬ k = 0 by omega]
            refine awp_drawG 23 mixed rfl rfl rfl rfl ?_; refine MGo_c0 rfl (by decide) (.run rfl (stp_load_all rfl tf_api_Term rfl rfl rfl rfl)) ?_; refine MGo_c0 rfl (by decide) (.run rfl (stp_call (avs := [_]) true rfl en_term_May rfl rfl (by have hh := May_ok u huw; rw [l16] at hh; exact hh) (fun _ => rfl) rfl)) ?_; refine MGo_c0 rfl (by decide) (.run rfl (stp_not rfl rfl)) ?_; refine MGo_c0 rfl (by decide) (.run rfl (stp_move (.inl rfl) rfl)) ?_; refine MGo_c0 rfl (by decide) (.want rfl rfl rfl (by decide) (stp_load_all rfl tf_api_Term rfl rfl rfl rfl)) ?_
            refine MGo_c0 rfl (by decide) (.want rfl rfl rfl (by decide) (stp_call (avs := [_]) true rfl en_term_Flat rfl rfl (by have hh := Flat_ok u (mayT_dle m16).1 huw; rw [l20] at hh; exact hh) (fun _ => rfl) rfl)) ?_; refine MGo_c0 rfl (by decide) (.want rfl rfl rfl (by decide) (stp_not rfl rfl)) ?_; refine MGo_c0 rfl (by decide) (.run rfl (stp_pick rfl rfl rfl)) ?_; refine MGo_c0 rfl (by decide) (.run rfl (stp_move (.inl rfl) rfl)) ?_; refine MGo_c0 rfl (by decide) (.want rfl rfl rfl (by decide) (stp_load_all rfl tf_api_Term rfl rfl rfl rfl)) ?_
            refine MGo_c0 rfl (by decide) (.want rfl rfl rfl (by decide) (stp_call (avs := [_]) true rfl en_term_Is rfl rfl (by have hh := Is_ok u huw m16; rw [l25] at hh; exact hh) (fun _ => rfl) rfl)) ?_; refine MGo_c0 rfl (by decide) (.want rfl rfl rfl (by decide) (stp_not rfl rfl)) ?_; refine MGo_c0 rfl (by decide) (.run rfl (stp_pick rfl rfl rfl)) ?_
            refine MGo_c0 rfl (by decide) (.run rfl (stp_move (.inl rfl) rfl)) ?_; refine MGo_c0 rfl (by decide) (.want rfl rfl rfl (by decide) (stp_move (.inl rfl) rfl)) ?_; refine MGo_c0 rfl (by decide) (.want rfl rfl rfl (by decide) (stp_binI (r := .bool true) rfl rfl rfl (congrArg (fun b => some (Value.bool b)) l30))) ?_
            refine MGo_c0 rfl (by decide) (.want rfl rfl rfl (by decide) (stp_move (.inl rfl) rfl)) ?_; refine MGo_c0 rfl (by decide) (.want rfl rfl rfl (by decide) (stp_move (.inl rfl) rfl)) ?_; refine MGo_c0 rfl (by decide) (.want rfl rfl rfl (by decide) (stp_move (.inl rfl) rfl)) ?_; refine MGo_c0 rfl (by decide) (.want rfl rfl rfl (by decide) (stp_sub rfl rfl rfl (by omega))) ?_; refine MGo_c0 rfl (by decide) (.want rfl rfl rfl (by decide) (stp_indexAddr rfl sl_S_api_Term rfl rfl (by omega) (tmDs_get hv))) ?_
            refine MGo_c0 rfl (by decide) (.want rfl rfl rfl (by decide) (stp_load_elpa rfl tf_api_Term rfl rfl)) ?_; refine MGo_c0 rfl (by decide) (.want rfl rfl rfl (by decide) (stp_load_all rfl tf_api_Term rfl rfl rfl rfl)) ?_; refine MGo_nil ⟨rfl, rfl, ?_⟩; refine awps_g0 rfl rfl rfl (by decide) rfl (by decide) (stp_call (avs := [_, _]) true rfl en_term_Compare rfl rfl (Compare_ok 5 v u (mayT_dle hvm).1 hvw huw) (fun _ => rfl) rfl) ?_; refine awps_g0 rfl rfl rfl (by decide) rfl (by decide) (stp_binI rfl rfl rfl rfl) ?_
            refine awps_g0 rfl rfl rfl (by decide) rfl (by decide) (stp_pick rfl rfl rfl) ?_; refine awps_stp0 rfl rfl (by decide) (stp_pick rfl rfl rfl) ?_; refine awps_nil ?_; refine thenQ_nil ?_; refine awp_cond rfl (fun c2 => ?_) (fun c2 => ?_)
            · try simp only [↓cqA, cqB] at c2
              refine awp_seq ?_; refine awp_region ?_; refine awps_stp0 rfl rfl (by decide) (stp_move (.inr rfl) rfl) ?_; refine awps_nil ?_; refine thenQ_nil ?_; refine awp_ret ?_; refine inQ_ret (thenQ_ret (thenQ_ret (inQ_ret (thenQ_ret (?_)))))
              -- leaf 0F1Tl16Tl20Tl25Tl30T2T
              refine ret0 (noL hL) (.inl rfl) (resAs_tmp rfl (resAs_nil)) ?_ ?_
              · rfl
              refine ⟨bool_w ?_, rfl⟩
              first
                | (rw [atomsB, decide_eq_false (by omega)]; rfl)
                | (have hno : atomK l k = false := by
                     first
                       | exact hbad
                       | (rw [hke]; simp; omega)
                   have : (List.range l.length).all (atomK l) = false := List.all_eq_false.2 ⟨k, List.mem_range.2 (by omega), by simp [hno]⟩
                   rw [atomsB, this, Bool.and_false])
                | (have : (List.range l.length).all (atomK l) = true := List.all_eq_true.2 fun j hj => hp.2 j (by have := List.mem_range.1 hj; omega)
                   rw [atomsB, this, decide_eq_true (by omega)]; rfl)
            try simp only [↓cqA, cqB] at c2
            refine awp_skip ?_; refine inQ_nil ?_; refine thenQ_nil ?_; refine awp_region ?_; refine awps_stp0 rfl rfl (by decide) (stp_add rfl rfl rfl (by omega)) ?_; refine awps_stp0 rfl rfl (by decide) (stp_move (.inl rfl) rfl) ?_; refine awps_nil ?_; refine thenQ_nil ?_; refine ⟨?_, ?_, ?_⟩
            · skip
              omega
            · skip
              refine ⟨by omega, fun j hj => ?_⟩
              by_cases hjk : j < k
              · exact hp.2 j hjk
              · rw [show j = k by omega]
                first
                  | exact hgood
                  | (rw [hke]; simp; omega)
            exact sub_re (SubT.cons (lk_eq rfl (by first | rfl | simp)) (SubT.cons (lk_eq rfl (by first | rfl | simp)) (SubT.cons (lk_eq rfl (by first | rfl | simp)) (SubT.cons (lk_eq rfl (by first | rfl | simp)) (SubT.nil))))) (SubO.nil) rfl rfl (noL' (noL hL) _)
          have m30 := l30
          try simp only [↓cqA, cqB] at m30
          have hgood : atomK l k = true := by
            have h0 : k = 0 := by omega
            simp only [atomK, hu]; simp [m16, m20, m25, h0]
          refine awp_drawG 23 mixed rfl rfl rfl rfl ?_; refine MGo_c0 rfl (by decide) (.run rfl (stp_load_all rfl tf_api_Term rfl rfl rfl rfl)) ?_; refine MGo_c0 rfl (by decide) (.run rfl (stp_call (avs := [_]) true rfl en_term_May rfl rfl (by have hh := May_ok u huw; rw [l16] at hh; exact hh) (fun _ => rfl) rfl)) ?_; refine MGo_c0 rfl (by decide) (.run rfl (stp_not rfl rfl)) ?_; refine MGo_c0 rfl (by decide) (.run rfl (stp_move (.inl rfl) rfl)) ?_; refine MGo_c0 rfl (by decide) (.want rfl rfl rfl (by decide) (stp_load_all rfl tf_api_Term rfl rfl rfl rfl)) ?_
          refine MGo_c0 rfl (by decide) (.want rfl rfl rfl (by decide) (stp_call (avs := [_]) true rfl en_term_Flat rfl rfl (by have hh := Flat_ok u (mayT_dle m16).1 huw; rw [l20] at hh; exact hh) (fun _ => rfl) rfl)) ?_; refine MGo_c0 rfl (by decide) (.want rfl rfl rfl (by decide) (stp_not rfl rfl)) ?_; refine MGo_c0 rfl (by decide) (.run rfl (stp_pick rfl rfl rfl)) ?_; refine MGo_c0 rfl (by decide) (.run rfl (stp_move (.inl rfl) rfl)) ?_; refine MGo_c0 rfl (by decide) (.want rfl rfl rfl (by decide) (stp_load_all rfl tf_api_Term rfl rfl rfl rfl)) ?_
          refine MGo_c0 rfl (by decide) (.want rfl rfl rfl (by decide) (stp_call (avs := [_]) true rfl en_term_Is rfl rfl (by have hh := Is_ok u huw m16; rw [l25] at hh; exact hh) (fun _ => rfl) rfl)) ?_; refine MGo_c0 rfl (by decide) (.want rfl rfl rfl (by decide) (stp_not rfl rfl)) ?_; refine MGo_c0 rfl (by decide) (.run rfl (stp_pick rfl rfl rfl)) ?_
          refine MGo_c0 rfl (by decide) (.run rfl (stp_move (.inl rfl) rfl)) ?_; refine MGo_c0 rfl (by decide) (.want rfl rfl rfl (by decide) (stp_move (.inl rfl) rfl)) ?_; refine MGo_c0 rfl (by decide) (.want rfl rfl rfl (by decide) (stp_binI (r := .bool false) rfl rfl rfl (congrArg (fun b => some (Value.bool b)) l30))) ?_
          refine MGo_c0 rfl (by decide) (.want rfl rfl rfl (by decide) (stp_move (.inl rfl) rfl)) ?_; refine MGo_c0 rfl (by decide) (.skip rfl rfl rfl (by decide) (by decide)) ?_; refine MGo_c0 rfl (by decide) (.skip rfl rfl rfl (by decide) (by decide)) ?_; refine MGo_c0 rfl (by decide) (.skip rfl rfl rfl (by decide) (by decide)) ?_
          refine MGo_c0 rfl (by decide) (.skip rfl rfl rfl (by decide) (by decide)) ?_; refine MGo_c0 rfl (by decide) (.skip rfl rfl rfl (by decide) (by decide)) ?_; refine MGo_c0 rfl (by decide) (.skip rfl rfl rfl (by decide) (by decide)) ?_; refine MGo_nil ⟨rfl, rfl, ?_⟩; refine awps_gs rfl rfl rfl rfl (by decide) rfl (by decide) ?_
          refine awps_gs rfl rfl rfl rfl (by decide) rfl (by decide) ?_; refine awps_g0 rfl rfl rfl (by decide) rfl (by decide) (stp_pick rfl rfl rfl) ?_; refine awps_stp0 rfl rfl (by decide) (stp_pick rfl rfl rfl) ?_; refine awps_nil ?_; refine thenQ_nil ?_; refine awp_condF rfl ?_; refine awp_skip ?_; refine inQ_nil ?_; refine thenQ_nil ?_; refine awp_region ?_; refine awps_stp0 rfl rfl (by decide) (stp_add rfl rfl rfl (by omega)) ?_; refine awps_stp0 rfl rfl (by decide) (stp_move (.inl rfl) rfl) ?_; refine awps_nil ?_; refine thenQ_nil ?_; refine ⟨?_, ?_, ?_⟩
          · skip
            omega
          · skip
            refine ⟨by omega, fun j hj => ?_⟩
            by_cases hjk : j < k
            · exact hp.2 j hjk
            · rw [show j = k by omega]
              first
                | exact hgood
                | (rw [hke]; simp; omega)
          exact sub_re (SubT.cons (lk_eq rfl (by first | rfl | simp)) (SubT.cons (lk_eq rfl (by first | rfl | simp)) (SubT.cons (lk_eq rfl (by first | rfl | simp)) (SubT.cons (lk_eq rfl (by first | rfl | simp)) (SubT.nil))))) (SubO.nil) rfl rfl (noL' (noL hL) _)
        have m25 := l25
        try simp only [↓cqA, cqB] at m25
        have hbad : atomK l k = false := by simp only [atomK, hu]; simp [m25]
        refine awp_drawG 23 mixed rfl rfl rfl rfl ?_; refine MGo_c0 rfl (by decide) (.run rfl (stp_load_all rfl tf_api_Term rfl rfl rfl rfl)) ?_; refine MGo_c0 rfl (by decide) (.run rfl (stp_call (avs := [_]) true rfl en_term_May rfl rfl (by have hh := May_ok u huw; rw [l16] at hh; exact hh) (fun _ => rfl) rfl)) ?_; refine MGo_c0 rfl (by decide) (.run rfl (stp_not rfl rfl)) ?_; refine MGo_c0 rfl (by decide) (.run rfl (stp_move (.inl rfl) rfl)) ?_; refine MGo_c0 rfl (by decide) (.want rfl rfl rfl (by decide) (stp_load_all rfl tf_api_Term rfl rfl rfl rfl)) ?_
        refine MGo_c0 rfl (by decide) (.want rfl rfl rfl (by decide) (stp_call (avs := [_]) true rfl en_term_Flat rfl rfl (by have hh := Flat_ok u (mayT_dle m16).1 huw; rw [l20] at hh; exact hh) (fun _ => rfl) rfl)) ?_; refine MGo_c0 rfl (by decide) (.want rfl rfl rfl (by decide) (stp_not rfl rfl)) ?_; refine MGo_c0 rfl (by decide) (.run rfl (stp_pick rfl rfl rfl)) ?_; refine MGo_c0 rfl (by decide) (.run rfl (stp_move (.inl rfl) rfl)) ?_; refine MGo_c0 rfl (by decide) (.want rfl rfl rfl (by decide) (stp_load_all rfl tf_api_Term rfl rfl rfl rfl)) ?_
        refine MGo_c0 rfl (by decide) (.want rfl rfl rfl (by decide) (stp_call (avs := [_]) true rfl en_term_Is rfl rfl (by have hh := Is_ok u huw m16; rw [l25] at hh; exact hh) (fun _ => rfl) rfl)) ?_; refine MGo_c0 rfl (by decide) (.want rfl rfl rfl (by decide) (stp_not rfl rfl)) ?_; refine MGo_c0 rfl (by decide) (.run rfl (stp_pick rfl rfl rfl)) ?_
        refine MGo_c0 rfl (by decide) (.run rfl (stp_move (.inl rfl) rfl)) ?_; refine MGo_c0 rfl (by decide) (.skip rfl rfl rfl (by decide) (by decide)) ?_; refine MGo_c0 rfl (by decide) (.skip rfl rfl rfl (by decide) (by decide)) ?_; refine MGo_c0 rfl (by decide) (.skip rfl rfl rfl (by decide) (by decide)) ?_; refine MGo_c0 rfl (by decide) (.skipu rfl rfl rfl (by decide)) ?_
        refine MGo_c0 rfl (by decide) (.skipu rfl rfl rfl (by decide)) ?_; refine MGo_c0 rfl (by decide) (.skipu rfl rfl rfl (by decide)) ?_; refine MGo_c0 rfl (by decide) (.skipu rfl rfl rfl (by decide)) ?_; refine MGo_c0 rfl (by decide) (.skipu rfl rfl rfl (by decide)) ?_; refine MGo_c0 rfl (by decide) (.skipu rfl rfl rfl (by decide)) ?_; refine MGo_nil ⟨rfl, rfl, ?_⟩
        refine awps_gu rfl rfl rfl (by decide) rfl (by decide) ?_; refine awps_gu rfl rfl rfl (by decide) rfl (by decide) ?_; refine awps_gs rfl rfl rfl rfl (by decide) rfl (by decide) ?_; refine awps_stp0 rfl rfl (by decide) (stp_pick rfl rfl rfl) ?_; refine awps_nil ?_; refine thenQ_nil ?_; refine awp_condT rfl ?_; refine awp_seq ?_; refine awp_region ?_; refine awps_stp0 rfl rfl (by decide) (stp_move (.inr rfl) rfl) ?_; refine awps_nil ?_; refine thenQ_nil ?_; refine awp_ret ?_; refine inQ_ret (thenQ_ret (thenQ_ret (inQ_ret (thenQ_ret (?_)))))
        -- leaf 0F1Tl16Tl20Tl25F
        refine ret0 (noL hL) (.inl rfl) (resAs_tmp rfl (resAs_nil)) ?_ ?_
        · rfl
        refine ⟨bool_w ?_, rfl⟩
        first
          | (rw [atomsB, decide_eq_false (by omega)]; rfl)
          | (have hno : atomK l k = false := by
               first
                 | exact hbad
                 | (rw [hke]; simp; omega)
             have : (List.range l.length).all (atomK l) = false := List.all_eq_false.2 ⟨k, List.mem_range.2 (by omega), by simp [hno]⟩
             rw [atomsB, this, Bool.and_false])
          | (have : (List.range l.length).all (atomK l) = true := List.all_eq_true.2 fun j hj => hp.2 j (by have := List.mem_range.1 hj; omega)
             rw [atomsB, this, decide_eq_true (by omega)]; rfl)
      have m20 := l20
      try simp only [↓cqA, cqB] at m20
      have hbad : atomK l k = false := by simp only [atomK, hu]; simp [m20]
      refine awp_drawG 23 mixed rfl rfl rfl rfl ?_; refine MGo_c0 rfl (by decide) (.run rfl (stp_load_all rfl tf_api_Term rfl rfl rfl rfl)) ?_; refine MGo_c0 rfl (by decide) (.run rfl (stp_call (avs := [_]) true rfl en_term_May rfl rfl (by have hh := May_ok u huw; rw [l16] at hh; exact hh) (fun _ => rfl) rfl)) ?_; refine MGo_c0 rfl (by decide) (.run rfl (stp_not rfl rfl)) ?_; refine MGo_c0 rfl (by decide) (.run rfl (stp_move (.inl rfl) rfl)) ?_; refine MGo_c0 rfl (by decide) (.want rfl rfl rfl (by decide) (stp_load_all rfl tf_api_Term rfl rfl rfl rfl)) ?_
      refine MGo_c0 rfl (by decide) (.want rfl rfl rfl (by decide) (stp_call (avs := [_]) true rfl en_term_Flat rfl rfl (by have hh := Flat_ok u (mayT_dle m16).1 huw; rw [l20] at hh; exact hh) (fun _ => rfl) rfl)) ?_; refine MGo_c0 rfl (by decide) (.want rfl rfl rfl (by decide) (stp_not rfl rfl)) ?_; refine MGo_c0 rfl (by decide) (.run rfl (stp_pick rfl rfl rfl)) ?_
      refine MGo_c0 rfl (by decide) (.run rfl (stp_move (.inl rfl) rfl)) ?_; refine MGo_c0 rfl (by decide) (.skip rfl rfl rfl (by decide) (by decide)) ?_; refine MGo_c0 rfl (by decide) (.skip rfl rfl rfl (by decide) (by decide)) ?_; refine MGo_c0 rfl (by decide) (.skip rfl rfl rfl (by decide) (by decide)) ?_; refine MGo_c0 rfl (by decide) (.run rfl (stp_pick rfl rfl rfl)) ?_
      refine MGo_c0 rfl (by decide) (.run rfl (stp_move (.inl rfl) rfl)) ?_; refine MGo_c0 rfl (by decide) (.skip rfl rfl rfl (by decide) (by decide)) ?_; refine MGo_c0 rfl (by decide) (.skip rfl rfl rfl (by decide) (by decide)) ?_; refine MGo_c0 rfl (by decide) (.skip rfl rfl rfl (by decide) (by decide)) ?_; refine MGo_c0 rfl (by decide) (.skipu rfl rfl rfl (by decide)) ?_
      refine MGo_c0 rfl (by decide) (.skipu rfl rfl rfl (by decide)) ?_; refine MGo_c0 rfl (by decide) (.skipu rfl rfl rfl (by decide)) ?_; refine MGo_c0 rfl (by decide) (.skipu rfl rfl rfl (by decide)) ?_; refine MGo_c0 rfl (by decide) (.skipu rfl rfl rfl (by decide)) ?_; refine MGo_c0 rfl (by decide) (.skipu rfl rfl rfl (by decide)) ?_; refine MGo_nil ⟨rfl, rfl, ?_⟩
      refine awps_gu rfl rfl rfl (by decide) rfl (by decide) ?_; refine awps_gu rfl rfl rfl (by decide) rfl (by decide) ?_; refine awps_gs rfl rfl rfl rfl (by decide) rfl (by decide) ?_; refine awps_stp0 rfl rfl (by decide) (stp_pick rfl rfl rfl) ?_; refine awps_nil ?_; refine thenQ_nil ?_; refine awp_condT rfl ?_; refine awp_seq ?_; refine awp_region ?_; refine awps_stp0 rfl rfl (by decide) (stp_move (.inr rfl) rfl) ?_; refine awps_nil ?_; refine thenQ_nil ?_; refine awp_ret ?_; refine inQ_ret (thenQ_ret (thenQ_ret (inQ_ret (thenQ_ret (?_)))))
      -- leaf 0F1Tl16Tl20F
      refine ret0 (noL hL) (.inl rfl) (resAs_tmp rfl (resAs_nil)) ?_ ?_
      · rfl
      refine ⟨bool_w ?_, rfl⟩
      first
        | (rw [atomsB, decide_eq_false (by omega)]; rfl)
        | (have hno : atomK l k = false := by
             first
               | exact hbad
               | (rw [hke]; simp; omega)
           have : (List.range l.length).all (atomK l) = false := List.all_eq_false.2 ⟨k, List.mem_range.2 (by omega), by simp [hno]⟩
           rw [atomsB, this, Bool.and_false])
        | (have : (List.range l.length).all (atomK l) = true := List.all_eq_true.2 fun j hj => hp.2 j (by have := List.mem_range.1 hj; omega)
           rw [atomsB, this, decide_eq_true (by omega)]; rfl)
    have m16 := l16
    try simp only [↓cqA, cqB] at m16
    have hbad : atomK l k = false := by simp only [atomK, hu]; simp [m16]
    refine awp_drawG 23 mixed rfl rfl rfl rfl ?_; refine MGo_c0 rfl (by decide) (.run rfl (stp_load_all rfl tf_api_Term rfl rfl rfl rfl)) ?_; refine MGo_c0 rfl (by decide) (.run rfl (stp_call (avs := [_]) true rfl en_term_May rfl rfl (by have hh := May_ok u huw; rw [l16] at hh; exact hh) (fun _ => rfl) rfl)) ?_; refine MGo_c0 rfl (by decide) (.run rfl (stp_not rfl rfl)) ?_; refine MGo_c0 rfl (by decide) (.run rfl (stp_move (.inl rfl) rfl)) ?_; refine MGo_c0 rfl (by decide) (.skip rfl rfl rfl (by decide) (by decide)) ?_
    refine MGo_c0 rfl (by decide) (.skip rfl rfl rfl (by decide) (by decide)) ?_; refine MGo_c0 rfl (by decide) (.skip rfl rfl rfl (by decide) (by decide)) ?_; refine MGo_c0 rfl (by decide) (.run rfl (stp_pick rfl rfl rfl)) ?_; refine MGo_c0 rfl (by decide) (.run rfl (stp_move (.inl rfl) rfl)) ?_; refine MGo_c0 rfl (by decide) (.skip rfl rfl rfl (by decide) (by decide)) ?_
    refine MGo_c0 rfl (by decide) (.skip rfl rfl rfl (by decide) (by decide)) ?_; refine MGo_c0 rfl (by decide) (.skip rfl rfl rfl (by decide) (by decide)) ?_; refine MGo_c0 rfl (by decide) (.run rfl (stp_pick rfl rfl rfl)) ?_; refine MGo_c0 rfl (by decide) (.run rfl (stp_move (.inl rfl) rfl)) ?_; refine MGo_c0 rfl (by decide) (.skip rfl rfl rfl (by decide) (by decide)) ?_
    refine MGo_c0 rfl (by decide) (.skip rfl rfl rfl (by decide) (by decide)) ?_; refine MGo_c0 rfl (by decide) (.skip rfl rfl rfl (by decide) (by decide)) ?_; refine MGo_c0 rfl (by decide) (.skipu rfl rfl rfl (by decide)) ?_; refine MGo_c0 rfl (by decide) (.skipu rfl rfl rfl (by decide)) ?_; refine MGo_c0 rfl (by decide) (.skipu rfl rfl rfl (by decide)) ?_
    refine MGo_c0 rfl (by decide) (.skipu rfl rfl rfl (by decide)) ?_; refine MGo_c0 rfl (by decide) (.skipu rfl rfl rfl (by decide)) ?_; refine MGo_c0 rfl (by decide) (.skipu rfl rfl rfl (by decide)) ?_; refine MGo_nil ⟨rfl, rfl, ?_⟩; refine awps_gu rfl rfl rfl (by decide) rfl (by decide) ?_; refine awps_gu rfl rfl rfl (by decide) rfl (by decide) ?_
    refine awps_gs rfl rfl rfl rfl (by decide) rfl (by decide) ?_; refine awps_stp0 rfl rfl (by decide) (stp_pick rfl rfl rfl) ?_; refine awps_nil ?_; refine thenQ_nil ?_; refine awp_condT rfl ?_; refine awp_seq ?_; refine awp_region ?_; refine awps_stp0 rfl rfl (by decide) (stp_move (.inr rfl) rfl) ?_; refine awps_nil ?_; refine thenQ_nil ?_; refine awp_ret ?_; refine inQ_ret (thenQ_ret (thenQ_ret (inQ_ret (thenQ_ret (?_)))))
    -- leaf 0F1Tl16F
    refine ret0 (noL hL) (.inl rfl) (resAs_tmp rfl (resAs_nil)) ?_ ?_
    · rfl
    refine ⟨bool_w ?_, rfl⟩
    first
      | (rw [atomsB, decide_eq_false (by omega)]; rfl)
      | (have hno : atomK l k = false := by
           first
             | exact hbad
             | (rw [hke]; simp; omega)
         have : (List.range l.length).all (atomK l) = false := List.all_eq_false.2 ⟨k, List.mem_range.2 (by omega), by simp [hno]⟩
         rw [atomsB, this, Bool.and_false])
      | (have : (List.range l.length).all (atomK l) = true := List.all_eq_true.2 fun j hj => hp.2 j (by have := List.mem_range.1 hj; omega)
         rw [atomsB, this, decide_eq_true (by omega)]; rfl)
  try simp only [↓cqA, cqB] at c1
  refine awp_exit ?_; refine thenQ_exit (thenQ_exit (inQ_hit ?_)); refine thenQ_nil ?_; refine awp_seq ?_; refine awp_region ?_; refine awps_stp0 rfl rfl (by decide) (stp_move (.inr rfl) rfl) ?_; refine awps_nil ?_; refine thenQ_nil ?_; refine awp_ret ?_
  -- leaf 0F1F
  refine ret0 (noL hL) (.inl rfl) (resAs_tmp rfl (resAs_nil)) ?_ ?_
  · rfl
  refine ⟨bool_w ?_, rfl⟩
  first
    | (rw [atomsB, decide_eq_false (by omega)]; rfl)
    | (have hno : atomK l k = false := by
         first
           | exact hbad
           | (rw [hke]; simp; omega)
       have : (List.range l.length).all (atomK l) = false := List.all_eq_false.2 ⟨k, List.mem_range.2 (by omega), by simp [hno]⟩
       rw [atomsB, this, Bool.and_false])
    | (have : (List.range l.length).all (atomK l) = true := List.all_eq_true.2 fun j hj => hp.2 j (by have := List.mem_range.1 hj; omega)
       rw [atomsB, this, decide_eq_true (by omega)]; rfl)
end Go.Proofs.YtdecgkhdbfgldaaGreat
