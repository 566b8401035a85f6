/- Part 10 of the proof: Gm, Gl, Gn. -/
import Derived.Test.YtdecgkhdbfgldaaE9
set_option linter.unusedVariables false
set_option linter.unusedSimpArgs false
set_option maxRecDepth 8000
namespace Go.Proofs.Ytdecgkhdbfgldaa
open Go
theorem bindOwnF_ok (l : List Bd) (hl : BOk l) : PF 62 [bdA l] (bdA l) := by
  have hlen := bdDs_length l
  have hll := hl.len
  refine AC_intro Try.func62 rfl Try.ntmps62 (Nat.le_of_ble_eq_true rfl) fun c hL hQ => ?_
  refine awp_seq ?_
  refine awp_region ?_
  refine awps_stp0 rfl rfl (by decide) (stp_move (.inr rfl) rfl) ?_
  refine awps_nil ?_
  refine thenQ_nil ?_
  refine awp_seq ?_
  refine awp_seq ?_
  refine awp_region ?_
  refine awps_stp0 rfl rfl (by decide) (stp_move (.inl rfl) rfl) ?_
  first | refine awps_stp0 rfl rfl (by decide) (stp_len_dat rfl sl_S_api_Bind rfl) ?_ | refine awps_stp0 rfl rfl (by decide) (stp_len_rowd rfl sl_S_api_Bind rfl rfl) ?_ | refine awps_stp0 rfl rfl (by decide) (stp_len_nil rfl sl_S_api_Bind rfl) ?_ | refine awps_stp0 rfl rfl (by decide) (stp_len_vw rfl sl_S_api_Bind rfl) ?_
  refine awps_stp0 rfl rfl (by decide) (stp_move (.inl rfl) rfl) ?_
  refine awps_nil ?_
  refine thenQ_nil ?_
  refine awp_block ?_
  refine awp_while (l.length) (fun k => k ≤ l.length) (fun k => ⟨[(2, .row 2), (5, bdA l), (6, iv (bdDs l).length), (7, iv (k : Int))], [(2, .rowd 67 5 true (bdDs (l.take k)))]⟩) (by omega) ?_ (fun k hk hp => ?_)
  · exact Sub.trans (sub_nil_row (t := 2) (l := 2) 67 5 true rfl rfl) (sub_re (SubT.cons (lk_eq rfl (by first | rfl | simp)) (SubT.cons (lk_eq rfl (by first | rfl | simp)) (SubT.cons (lk_eq rfl (by first | rfl | simp)) (SubT.cons (lk_eq rfl (by first | rfl | simp)) (SubT.nil))))) (SubO.cons (ok_eq rfl (by rfl)) (SubO.nil)) rfl rfl (noL' (noL hL) _))
  have hl2 : (bdDs (l.take k)).length ≤ l.length := by rw [bdDs_length, List.length_take]; omega
  refine awp_seq ?_
  refine awp_region ?_
  refine awps_stp0 rfl rfl (by decide) (stp_binI rfl rfl rfl rfl) ?_
  refine awps_nil ?_
  refine thenQ_nil ?_
  refine awp_seq ?_
  refine awp_cond rfl (fun c0 => ?_) (fun c0 => ?_)
  · try simp only [↓str_beq_t, ↓str_beq_f, decide_eq_true_eq, decide_eq_false_iff_not, Bool.not_eq_true', Bool.not_eq_false', Int.not_lt, Int.not_le, beq_iff_eq, beq_eq_false_iff_ne, bne_iff_ne, bne_eq_false_iff_eq, ne_eq] at c0
    obtain ⟨u, hu⟩ := get_of_lt (l := l) (k := k) (by omega)
    have hum := hl.el u (List.mem_of_getElem? hu)
    have key := Own_ok 5 u.t (mayT_dle hum.2).1 hum.1.2
    rw [own_may 5 u.t 24 hum.2] at key
    refine awp_skip ?_
    refine thenQ_nil ?_
    refine awp_seq ?_
    refine awp_block ?_
    refine awp_seq ?_
    refine awp_region ?_
    first | refine awps_stp0 rfl rfl (by decide) (stp_indexAddr rfl sl_S_api_Bind rfl rfl (by omega) (bdDs_get hu)) ?_ | refine awps_stp0 rfl rfl (by decide) (stp_indexAddr_rowd rfl sl_S_api_Bind rfl rfl rfl (by omega) (bdDs_get hu)) ?_ | refine awps_stp0 rfl rfl (by decide) (stp_indexAddr_row rfl sl_S_api_Bind rfl rfl rfl (by omega) (bdDs_get hu) (by decide)) ?_
    first | refine awps_stp0 rfl rfl (by decide) (stp_load_all rfl tf_api_Bind rfl rfl rfl rfl) ?_ | refine awps_stp0 rfl rfl (by decide) (stp_load rfl tf_api_Bind rfl rfl rfl rfl rfl) ?_ | refine awps_stp0 rfl rfl (by decide) (stp_load_elpa rfl tf_api_Bind rfl rfl) ?_ | refine awps_stp0 rfl rfl (by decide) (stp_load_elpn rfl tf_api_Bind rfl rfl rfl) ?_
    refine awps_stp1 rfl rfl (by decide) (stp_alloc 4 rfl zv_api_Bind rfl) rfl ?_
    refine awps_store rfl rfl rfl tf_api_Bind rfl rfl rfl rfl rfl rfl rfl rfl rfl ?_
    refine awps_nil ?_
    refine thenQ_nil ?_
    refine awp_drawG 8 mixed rfl rfl rfl rfl ?_
    refine MGo_c0 rfl (by decide) (.run rfl (stp_move (.inl rfl) rfl)) ?_
    first | refine MGo_c0 rfl (by decide) (.run rfl (stp_fieldAddr rfl fo_api_Bind_0 rfl)) ?_ | refine MGo_c0 rfl (by decide) (.run rfl (stp_fieldAddr_elp rfl fo_api_Bind_0 rfl)) ?_
    first | refine MGo_c0 rfl (by decide) (.run rfl (stp_load rfl tf_string rfl rfl rfl rfl rfl)) ?_ | refine MGo_c0 rfl (by decide) (.run rfl (stp_load_elp1 rfl tf_string rfl)) ?_ | refine MGo_c0 rfl (by decide) (.run rfl (stp_load_elpn rfl tf_string rfl rfl rfl)) ?_
    first | refine MGo_c0 rfl (by decide) (.run rfl (stp_fieldAddr rfl fo_api_Bind_1 rfl)) ?_ | refine MGo_c0 rfl (by decide) (.run rfl (stp_fieldAddr_elp rfl fo_api_Bind_1 rfl)) ?_
    first | refine MGo_c0 rfl (by decide) (.run rfl (stp_load_all rfl tf_api_Term rfl rfl rfl rfl)) ?_ | refine MGo_c0 rfl (by decide) (.run rfl (stp_load rfl tf_api_Term rfl rfl rfl rfl rfl)) ?_ | refine MGo_c0 rfl (by decide) (.run rfl (stp_load_elpa rfl tf_api_Term rfl rfl)) ?_ | refine MGo_c0 rfl (by decide) (.run rfl (stp_load_elpn rfl tf_api_Term rfl rfl rfl)) ?_
    refine MGo_c0 rfl (by decide) (.run rfl (stp_call (avs := [_]) true rfl en_term_Own rfl rfl (key) (fun _ => rfl) rfl)) ?_
    refine MGo_c0 rfl (by decide) (.run rfl (stp_build rfl zv_api_Bind rfl pl_api_Bind rfl rfl)) ?_
    refine MGo_c1 rfl (by decide) (.run rfl (stp_buildSlice 18 rfl sl_S_api_Bind zv_api_Bind rfl rfl (by decide) (by decide) (by decide) rfl rfl rfl)) ?_
    refine MGo_nil ⟨rfl, rfl, ?_⟩
    first | refine awps_u rfl rfl (by decide) (stpU_append1 19 ta_S_api_Bind rfl rfl rfl rfl rfl rfl rfl rfl (noL hL _) (by omega) rfl) rfl ?_ | refine awps_u rfl rfl (by decide) (stpU_appendd 19 ta_S_api_Bind rfl rfl rfl rfl rfl (noL hL _) (by simp) (by omega) rfl) rfl ?_ | refine awps_u rfl rfl (by decide) (stpU_appendi 19 ta_S_api_Bind rfl rfl rfl rfl (rfl) rfl (noL hL _) (by simp) (by omega) rfl) rfl ?_
    refine awps_stp0 rfl rfl (by decide) (stp_move (.inr rfl) rfl) ?_
    refine awps_nil ?_
    refine inQ_nil ?_
    refine thenQ_nil ?_
    refine awp_region ?_
    refine awps_stp0 rfl rfl (by decide) (stp_add rfl rfl rfl (by omega)) ?_
    refine awps_stp0 rfl rfl (by decide) (stp_move (.inl rfl) rfl) ?_
    refine awps_nil ?_
    refine thenQ_nil ?_
    refine ⟨?_, ?_, ?_⟩
    · skip
      omega
    · skip
      omega
    exact Sub.trans (sub_rename 19 2 (noL hL _) (noL hL _)) (sub_re (SubT.cons (lk_eq rfl (by first | rfl | simp)) (SubT.cons (lk_eq rfl (by first | rfl | simp)) (SubT.cons (lk_eq rfl (by first | rfl | simp)) (SubT.cons (lk_eq rfl (by first | rfl | simp)) (SubT.nil))))) (SubO.cons (ok_eq rfl (by rw [take_snoc hu, bdDs, bdDs, List.map_append]; rfl)) (SubO.nil)) rfl rfl (noL' (noL hL) _))
  try simp only [↓str_beq_t, ↓str_beq_f, decide_eq_true_eq, decide_eq_false_iff_not, Bool.not_eq_true', Bool.not_eq_false', Int.not_lt, Int.not_le, beq_iff_eq, beq_eq_false_iff_ne, bne_iff_ne, bne_eq_false_iff_eq, ne_eq] at c0
  refine awp_exit ?_
  refine thenQ_exit (thenQ_exit (inQ_hit ?_))
  refine thenQ_nil ?_
  refine awp_seq ?_
  refine awp_sub (sub_freeze (l := 2) rfl (by decide) (noL hL _) rfl rfl) ?_
  refine awp_sub (sub_untag hQ) ?_
  refine awp_region ?_
  refine awps_stp0 rfl rfl (by decide) (stp_move (.inl rfl) rfl) ?_
  refine awps_stp0 rfl rfl (by decide) (stp_move (.inr rfl) rfl) ?_
  refine awps_nil ?_
  refine thenQ_nil ?_
  refine awp_ret ?_
  -- leaf 0F
  refine ret0 (noL hL) (.inl rfl) (resAs_tmp rfl (resAs_nil)) ?_ ?_
  · rfl
  exact ⟨by rw [List.take_of_length_le (by omega)]; rfl, rfl⟩
mutual
def fitR : Nat → List Bd → Tm → Tm → List Bd × Int
  | 0, _, _, _ => ([], 3)
  | d + 1, l, a, b => if a.kind = 1 then (if hasB l a.name = true then (if cmpT 5 (lookT l a.name) b = 0 then (l, 0) else ([], 3)) else (standL l a.name b, standE l a.name b)) else if argsB a b = true then fitL d l (a.args.zip b.args) else ([], 3)
def fitL : Nat → List Bd → List (Tm × Tm) → List Bd × Int
  | _, l, [] => (l, 0)
  | d, l, p :: ps => if (fitR d l p.1 p.2).2 ≠ 0 then ([], (fitR d l p.1 p.2).2) else fitL d (fitR d l p.1 p.2).1 ps
end
theorem fitL_snoc (d : Nat) (p : Tm × Tm) : ∀ (ps : List (Tm × Tm)) (l : List Bd), (fitL d l ps).2 = 0 → fitL d l (ps ++ [p]) = if (fitR d (fitL d l ps).1 p.1 p.2).2 ≠ 0 then ([], (fitR d (fitL d l ps).1 p.1 p.2).2) else ((fitR d (fitL d l ps).1 p.1 p.2).1, 0)
  | [], l, _ => by simp only [List.nil_append, fitL]
  | q :: ps, l, h => by
    rw [fitL] at h
    rw [List.cons_append, fitL, fitL]
    split at h
    · rename_i hc; exact absurd h hc
    · rename_i hc
      rw [if_neg hc, if_neg hc]
      exact fitL_snoc d p ps _ h
theorem fitL_stop (d : Nat) : ∀ (ps qs : List (Tm × Tm)) (l : List Bd), (fitL d l ps).2 ≠ 0 → fitL d l (ps ++ qs) = fitL d l ps
  | [], qs, l, h => by rw [fitL] at h; exact absurd rfl h
  | q :: ps, qs, l, h => by
    rw [List.cons_append, fitL, fitL]
    rw [fitL] at h
    split
    · rfl
    · rename_i hc
      rw [if_neg hc] at h
      exact fitL_stop d ps qs _ h
theorem standL_bok {l : List Bd} (h : BOk l) {s : ByteArray} (hs : s.size ≤ 140737488351232) {t : Tm} (ht : t.wf) (hm : mayT t = true) (hl : hasB l s = false) : BOk (standL l s t) := by
  unfold standL
  split
  · exact ⟨List.Pairwise.nil, by simp, fun b hb => by cases hb⟩
  · rename_i hc
    have hg : goodB [⟨s, t⟩] l = true := by
      cases hx : goodB [⟨s, t⟩] l with
      | true => rfl
      | false => exact absurd (.inr hx) hc
    have hsb : hasB (subB [⟨s, t⟩] l) s = false := by
      rw [hasB_no] at hl ⊢
      intro b hb
      obtain ⟨c, hc2, rfl⟩ := List.mem_map.1 hb
      exact hl c hc2
    have hr := ins_ris (y := ⟨s, t⟩) (subB_ris [⟨s, t⟩] h.ris) hsb
    rw [subB_pos] at hr
    refine ⟨hr, ?_, fun b hb => ?_⟩
    · rw [ins_length _ _ _ (by rw [subB_length]; exact posB_le l s), subB_length]; omega
    · rcases (mem_ins _ _ _ _).1 hb with hb | rfl
      · obtain ⟨c, hc2, rfl⟩ := List.mem_map.1 hb
        have := List.all_eq_true.1 hg c hc2
        exact ⟨⟨(h.el c hc2).1.1, putT_wf (one_bok hs ht hm) (h.el c hc2).1.2⟩, (into_may (by simpa using this)).1⟩
      · exact ⟨⟨hs, ht⟩, hm⟩
theorem may_arg {b v : Tm} (h : mayT b = true) (hv : v ∈ b.args) : mayT v = true := by
  rw [mayT_iff] at h ⊢
  refine ⟨h.1.arg hv, dle_mono 4 5 v (by omega) (h.2.1 v hv), ?_⟩
  have h2 := Tm.sz_eq b
  obtain ⟨i, hi⟩ := List.getElem?_of_mem hv
  have := sum_split (l := b.args) (k := i) (u := v) Tm.sz hi
  omega
theorem nil_bok : BOk [] := ⟨List.Pairwise.nil, by simp, fun b hb => by cases hb⟩
mutual
theorem fitR_bok : ∀ (d : Nat) (l : List Bd) (a b : Tm), BOk l → a.wf → b.wf → mayT b = true → BOk (fitR d l a b).1
  | 0, l, a, b, _, _, _, _ => by rw [fitR]; exact nil_bok
  | d + 1, l, a, b, h, ha, hb, hm => by
    rw [fitR]
    split
    · split
      · split
        · exact h
        · exact nil_bok
      · rename_i hh; exact standL_bok h ha.2.1 hb hm (by simpa using hh)
    · split
      · exact fitL_bok d (a.args.zip b.args) l h fun p hp => by
          have := List.of_mem_zip hp
          exact ⟨Tm.wfs_mem ha.2.2.2.2 this.1, Tm.wfs_mem hb.2.2.2.2 this.2, may_arg hm this.2⟩
      · exact nil_bok
theorem fitL_bok : ∀ (d : Nat) (ps : List (Tm × Tm)) (l : List Bd), BOk l → (∀ p ∈ ps, p.1.wf ∧ p.2.wf ∧ mayT p.2 = true) → BOk (fitL d l ps).1
  | d, [], l, h, _ => by rw [fitL]; exact h
  | d, p :: ps, l, h, hp => by
    rw [fitL]
    split
    · exact nil_bok
    · obtain ⟨h1, h2, h3⟩ := hp p (by simp)
      exact fitL_bok d ps _ (fitR_bok d l p.1 p.2 h h1 h2 h3) fun q hq => hp q (by simp [hq])
end
def fitPost (q : List Bd × Int) (r : AV) : Prop := (r = .tup [.imm (.slice none 0 0), iv q.2] ∧ q.1 = []) ∨ r = .tup [bdA q.1, iv q.2]
theorem fitPost_ok {f : FuncId} {args : List AV} {q : List Bd × Int} (h : AC Try.prog f args [] (fun r O => fitPost q r ∧ O = [])) : PF f args (.tup [bdA q.1, iv q.2]) :=
  AC_leP h (fun r O' h => by
    obtain ⟨⟨rfl, e1⟩ | rfl, rfl⟩ := h
    · exact ⟨_, .tup (.cons (.nil (f := false) (k := 5)) (.cons .refl .nil)), by rw [e1]; rfl, rfl⟩
    · exact ⟨_, .refl, rfl, rfl⟩)
theorem Fit_ok : ∀ (d : Nat) (l : List Bd) (a b : Tm), dle d a → a.shp → a.wf → BOk l → b.wf → mayT b = true → PF 80 [bdA l, tmA false a, tmA false b] (.tup [bdA (fitR d l a b).1, iv (fitR d l a b).2])
  | 0, l, a, b, h, _, _, _, _, _ => h.elim
  | d + 1, l, a, b, h, hs, ha, hl, hb, hm => by
    refine fitPost_ok ?_
    have hln := hl.len
    have hal : a.args.length ≤ 4 := by
      rcases ((Tm.shp_iff a).1 hs).1 with ⟨_, _, _, e⟩ | ⟨_, _, _, e⟩ | ⟨_, _, _, e⟩ <;> simp_all
    have hlk : (lookT l a.name).wf ∧ dle 5 (lookT l a.name) ∨ hasB l a.name = false := by
      have h1 := (lookB_has l a.name hl.ris).1
      cases hh : hasB l a.name with
      | false => exact .inr rfl
      | true =>
        rw [hh] at h1
        cases h2 : lookB l a.name with
        | none => rw [h2] at h1; cases h1
        | some t => rw [lookT, h2]; exact .inl ⟨(hl.look h2).1, may_dle (hl.look h2).2⟩
    refine AC_intro Try.func80 rfl Try.ntmps80 (Nat.le_of_ble_eq_true rfl) fun c hL hQ => ?_
    refine awp_seq ?_
    refine awp_region ?_
    refine awps_stp1 rfl rfl (by decide) (stp_box 4 rfl rfl rfl) rfl ?_
    refine awps_stp1 rfl rfl (by decide) (stp_box 5 rfl rfl rfl) rfl ?_
    refine awps_stp0 rfl rfl (by decide) (stp_move (.inr rfl) rfl) ?_
    refine awps_stp0 rfl rfl (by decide) (stp_move (.inr rfl) rfl) ?_
    refine awps_nil ?_
    refine thenQ_nil ?_
    refine awp_seq ?_
    refine awp_seq ?_
    refine awp_region ?_
    first | refine awps_stp0 rfl rfl (by decide) (stp_fieldAddr rfl fo_api_Term_0 rfl) ?_ | refine awps_stp0 rfl rfl (by decide) (stp_fieldAddr_elp rfl fo_api_Term_0 rfl) ?_
    first | refine awps_stp0 rfl rfl (by decide) (stp_load rfl tf_int rfl rfl rfl rfl rfl) ?_ | refine awps_stp0 rfl rfl (by decide) (stp_load_elp1 rfl tf_int rfl) ?_ | refine awps_stp0 rfl rfl (by decide) (stp_load_elpn rfl tf_int rfl rfl rfl) ?_
    refine awps_stp0 rfl rfl (by decide) (stp_binI rfl rfl rfl rfl) ?_
    refine awps_nil ?_
    refine thenQ_nil ?_
    refine awp_cond rfl (fun c0 => ?_) (fun c0 => ?_)
    · try simp only [↓str_beq_t, ↓str_beq_f, decide_eq_true_eq, decide_eq_false_iff_not, Bool.not_eq_true', Bool.not_eq_false', Int.not_lt, Int.not_le, beq_iff_eq, beq_eq_false_iff_ne, bne_iff_ne, bne_eq_false_iff_eq, ne_eq] at c0
      refine awp_seq ?_
      refine awp_region ?_
      refine awps_stp0 rfl rfl (by decide) (stp_move (.inl rfl) rfl) ?_
      first | refine awps_stp0 rfl rfl (by decide) (stp_fieldAddr rfl fo_api_Term_1 rfl) ?_ | refine awps_stp0 rfl rfl (by decide) (stp_fieldAddr_elp rfl fo_api_Term_1 rfl) ?_
      first | refine awps_stp0 rfl rfl (by decide) (stp_load rfl tf_string rfl rfl rfl rfl rfl) ?_ | refine awps_stp0 rfl rfl (by decide) (stp_load_elp1 rfl tf_string rfl) ?_ | refine awps_stp0 rfl rfl (by decide) (stp_load_elpn rfl tf_string rfl rfl rfl) ?_
      refine awps_call (avs := [_, _]) false rfl rfl rfl (by decide) en_bind_Look rfl rfl (Look_ok l a.name hl.ris (by omega)) rfl rfl ?_
      refine awps_stp0 rfl rfl (by decide) (stp_move (.inl rfl) rfl) ?_
      refine awps_stp0 rfl rfl (by decide) (stp_extract rfl rfl rfl) ?_
      refine awps_stp0 rfl rfl (by decide) (stp_extract rfl rfl rfl) ?_
      refine awps_stp1 rfl rfl (by decide) (stp_alloc 8 rfl zv_api_Term rfl) rfl ?_
      refine awps_store rfl rfl rfl tf_api_Term rfl rfl rfl rfl rfl rfl rfl rfl rfl ?_
      refine awps_stp0 rfl rfl (by decide) (stp_move (.inr rfl) rfl) ?_
      refine awps_nil ?_
      refine thenQ_nil ?_
      refine awp_seq ?_
      refine awp_block ?_
      refine awp_seq ?_
      refine awp_region ?_
      refine awps_stp0 rfl rfl (by decide) (stp_move (.inl rfl) rfl) ?_
      refine awps_stp0 rfl rfl (by decide) (stp_move (.inl rfl) rfl) ?_
      refine awps_split 28 rfl (fun g28 => ?_) (fun g28 => ?_)
      · try simp only [↓str_beq_t, ↓str_beq_f, decide_eq_true_eq, decide_eq_false_iff_not, Bool.not_eq_true', Bool.not_eq_false', Int.not_lt, Int.not_le, beq_iff_eq, beq_eq_false_iff_ne, bne_iff_ne, bne_eq_false_iff_eq, ne_eq] at g28
        have hlk2 : (lookT l a.name).wf ∧ dle 5 (lookT l a.name) := by
          rcases hlk with h | h
          · exact h
          · rw [h] at g28; cases g28
        first | refine awps_g0 rfl rfl rfl (by decide) rfl (by decide) (stp_load_all rfl tf_api_Term rfl rfl rfl rfl) ?_ | refine awps_g0 rfl rfl rfl (by decide) rfl (by decide) (stp_load rfl tf_api_Term rfl rfl rfl rfl rfl) ?_ | refine awps_g0 rfl rfl rfl (by decide) rfl (by decide) (stp_load_elpa rfl tf_api_Term rfl rfl) ?_ | refine awps_g0 rfl rfl rfl (by decide) rfl (by decide) (stp_load_elpn rfl tf_api_Term rfl rfl rfl) ?_
        first | refine awps_g0 rfl rfl rfl (by decide) rfl (by decide) (stp_load_all rfl tf_api_Term rfl rfl rfl rfl) ?_ | refine awps_g0 rfl rfl rfl (by decide) rfl (by decide) (stp_load rfl tf_api_Term rfl rfl rfl rfl rfl) ?_ | refine awps_g0 rfl rfl rfl (by decide) rfl (by decide) (stp_load_elpa rfl tf_api_Term rfl rfl) ?_ | refine awps_g0 rfl rfl rfl (by decide) rfl (by decide) (stp_load_elpn rfl tf_api_Term rfl rfl rfl) ?_
        refine awps_g0 rfl rfl rfl (by decide) rfl (by decide) (stp_call (avs := [_, _]) true rfl en_term_Compare rfl rfl (Compare_ok 5 (lookT l a.name) b hlk2.2 hlk2.1 hb) (fun _ => rfl) rfl) ?_
        refine awps_g0 rfl rfl rfl (by decide) rfl (by decide) (stp_binI rfl rfl rfl rfl) ?_
        refine awps_stp0 rfl rfl (by decide) (stp_pick rfl rfl rfl) ?_
        refine awps_stp0 rfl rfl (by decide) (stp_move (.inr rfl) rfl) ?_
        refine awps_nil ?_
        refine thenQ_nil ?_
        refine awp_cond rfl (fun c1 => ?_) (fun c1 => ?_)
        · try simp only [↓str_beq_t, ↓str_beq_f, decide_eq_true_eq, decide_eq_false_iff_not, Bool.not_eq_true', Bool.not_eq_false', Int.not_lt, Int.not_le, beq_iff_eq, beq_eq_false_iff_ne, bne_iff_ne, bne_eq_false_iff_eq, ne_eq] at c1
          refine awp_seq ?_
          refine awp_region ?_
          refine awps_stp0 rfl rfl (by decide) (stp_move (.inr rfl) rfl) ?_
          refine awps_stp0 rfl rfl (by decide) (stp_move (.inr rfl) rfl) ?_
          refine awps_nil ?_
          refine thenQ_nil ?_
          refine awp_ret ?_
          refine inQ_ret (thenQ_ret (thenQ_ret (?_)))
          -- leaf 0Tg28T1T
          refine ret0 (noL hL) (.inl rfl) (resAs_tmp rfl (resAs_tmp rfl (resAs_nil))) ?_ ?_
          · rfl
          refine ⟨?_, rfl⟩
          rw [fitR]
          repeat' split
          all_goals first | exact .inl ⟨rfl, rfl⟩ | exact .inr rfl | (exfalso; simp_all; done)
        try simp only [↓str_beq_t, ↓str_beq_f, decide_eq_true_eq, decide_eq_false_iff_not, Bool.not_eq_true', Bool.not_eq_false', Int.not_lt, Int.not_le, beq_iff_eq, beq_eq_false_iff_ne, bne_iff_ne, bne_eq_false_iff_eq, ne_eq] at c1
        refine awp_seq ?_
        refine awp_region ?_
        refine awps_stp0 rfl rfl (by decide) (stp_move (.inl rfl) rfl) ?_
        refine awps_stp0 rfl rfl (by decide) (stp_move (.inr rfl) rfl) ?_
        refine awps_nil ?_
        refine thenQ_nil ?_
        refine awp_cond rfl (fun c2 => ?_) (fun c2 => ?_)
        · try simp only [↓str_beq_t, ↓str_beq_f, decide_eq_true_eq, decide_eq_false_iff_not, Bool.not_eq_true', Bool.not_eq_false', Int.not_lt, Int.not_le, beq_iff_eq, beq_eq_false_iff_ne, bne_iff_ne, bne_eq_false_iff_eq, ne_eq] at c2
          refine awp_seq ?_
          refine awp_region ?_
          refine awps_stp0 rfl rfl (by decide) (stp_move (.inl rfl) rfl) ?_
          refine awps_stp0 rfl rfl (by decide) (stp_move (.inr rfl) rfl) ?_
          refine awps_stp0 rfl rfl (by decide) (stp_move (.inr rfl) rfl) ?_
          refine awps_nil ?_
          refine thenQ_nil ?_
          refine awp_ret ?_
          refine inQ_ret (thenQ_ret (thenQ_ret (?_)))
          -- leaf 0Tg28T1F2T
          refine ret0 (noL hL) (.inl rfl) (resAs_tmp rfl (resAs_tmp rfl (resAs_nil))) ?_ ?_
          · rfl
          refine ⟨?_, rfl⟩
          rw [fitR]
          repeat' split
          all_goals first | exact .inl ⟨rfl, rfl⟩ | exact .inr rfl | (exfalso; simp_all; done)
        try simp only [↓str_beq_t, ↓str_beq_f, decide_eq_true_eq, decide_eq_false_iff_not, Bool.not_eq_true', Bool.not_eq_false', Int.not_lt, Int.not_le, beq_iff_eq, beq_eq_false_iff_ne, bne_iff_ne, bne_eq_false_iff_eq, ne_eq] at c2
        have hno : hasB l a.name = false := by simp_all
        refine awp_skip ?_
        refine inQ_nil ?_
        refine thenQ_nil ?_
        refine awp_seq ?_
        refine awp_region ?_
        refine awps_stp0 rfl rfl (by decide) (stp_move (.inl rfl) rfl) ?_
        first | refine awps_stp0 rfl rfl (by decide) (stp_fieldAddr rfl fo_api_Term_1 rfl) ?_ | refine awps_stp0 rfl rfl (by decide) (stp_fieldAddr_elp rfl fo_api_Term_1 rfl) ?_
        first | refine awps_stp0 rfl rfl (by decide) (stp_load rfl tf_string rfl rfl rfl rfl rfl) ?_ | refine awps_stp0 rfl rfl (by decide) (stp_load_elp1 rfl tf_string rfl) ?_ | refine awps_stp0 rfl rfl (by decide) (stp_load_elpn rfl tf_string rfl rfl rfl) ?_
        first | refine awps_stp0 rfl rfl (by decide) (stp_load_all rfl tf_api_Term rfl rfl rfl rfl) ?_ | refine awps_stp0 rfl rfl (by decide) (stp_load rfl tf_api_Term rfl rfl rfl rfl rfl) ?_ | refine awps_stp0 rfl rfl (by decide) (stp_load_elpa rfl tf_api_Term rfl rfl) ?_ | refine awps_stp0 rfl rfl (by decide) (stp_load_elpn rfl tf_api_Term rfl rfl rfl) ?_
        refine awps_call (avs := [_, _, _]) true rfl rfl rfl (by decide) en_bind_Stand rfl rfl (Stand_ok l hl a.name ha.2.1 b hb hm) rfl rfl ?_
        refine awps_stp0 rfl rfl (by decide) (stp_extract rfl rfl rfl) ?_
        refine awps_stp0 rfl rfl (by decide) (stp_extract rfl rfl rfl) ?_
        refine awps_sub (sub_untag hQ) ?_
        refine awps_stp0 rfl rfl (by decide) (stp_move (.inr rfl) rfl) ?_
        refine awps_stp0 rfl rfl (by decide) (stp_move (.inr rfl) rfl) ?_
        refine awps_nil ?_
        refine thenQ_nil ?_
        refine awp_ret ?_
        refine thenQ_ret (?_)
        -- leaf 0Tg28T1F2F
        refine ret0 (noL hL) (.inl rfl) (resAs_tmp rfl (resAs_tmp rfl (resAs_nil))) ?_ ?_
        · rfl
        refine ⟨?_, rfl⟩
        rw [fitR]
        repeat' split
        all_goals first | exact .inl ⟨rfl, rfl⟩ | exact .inr rfl | (exfalso; simp_all; done)
      try simp only [↓str_beq_t, ↓str_beq_f, decide_eq_true_eq, decide_eq_false_iff_not, Bool.not_eq_true', Bool.not_eq_false', Int.not_lt, Int.not_le, beq_iff_eq, beq_eq_false_iff_ne, bne_iff_ne, bne_eq_false_iff_eq, ne_eq] at g28
      refine awps_gs rfl rfl rfl rfl (by decide) rfl (by decide) ?_
      refine awps_gs rfl rfl rfl rfl (by decide) rfl (by decide) ?_
      refine awps_gs rfl rfl rfl rfl (by decide) rfl (by decide) ?_
      refine awps_gs rfl rfl rfl rfl (by decide) rfl (by decide) ?_
      refine awps_stp0 rfl rfl (by decide) (stp_pick rfl rfl rfl) ?_
      refine awps_stp0 rfl rfl (by decide) (stp_move (.inr rfl) rfl) ?_
      refine awps_nil ?_
      refine thenQ_nil ?_
      refine awp_condF rfl ?_
      refine awp_seq ?_
      refine awp_region ?_
      refine awps_stp0 rfl rfl (by decide) (stp_move (.inl rfl) rfl) ?_
      refine awps_stp0 rfl rfl (by decide) (stp_move (.inr rfl) rfl) ?_
      refine awps_nil ?_
      refine thenQ_nil ?_
      refine awp_cond rfl (fun c2 => ?_) (fun c2 => ?_)
      · try simp only [↓str_beq_t, ↓str_beq_f, decide_eq_true_eq, decide_eq_false_iff_not, Bool.not_eq_true', Bool.not_eq_false', Int.not_lt, Int.not_le, beq_iff_eq, beq_eq_false_iff_ne, bne_iff_ne, bne_eq_false_iff_eq, ne_eq] at c2
        refine awp_seq ?_
        refine awp_region ?_
        refine awps_stp0 rfl rfl (by decide) (stp_move (.inl rfl) rfl) ?_
        refine awps_stp0 rfl rfl (by decide) (stp_move (.inr rfl) rfl) ?_
        refine awps_stp0 rfl rfl (by decide) (stp_move (.inr rfl) rfl) ?_
        refine awps_nil ?_
        refine thenQ_nil ?_
        refine awp_ret ?_
        refine inQ_ret (thenQ_ret (thenQ_ret (?_)))
        -- leaf 0Tg28F2T
        refine ret0 (noL hL) (.inl rfl) (resAs_tmp rfl (resAs_tmp rfl (resAs_nil))) ?_ ?_
        · rfl
        refine ⟨?_, rfl⟩
        rw [fitR]
        repeat' split
        all_goals first | exact .inl ⟨rfl, rfl⟩ | exact .inr rfl | (exfalso; simp_all; done)
      try simp only [↓str_beq_t, ↓str_beq_f, decide_eq_true_eq, decide_eq_false_iff_not, Bool.not_eq_true', Bool.not_eq_false', Int.not_lt, Int.not_le, beq_iff_eq, beq_eq_false_iff_ne, bne_iff_ne, bne_eq_false_iff_eq, ne_eq] at c2
      have hno : hasB l a.name = false := by simp_all
      refine awp_skip ?_
      refine inQ_nil ?_
      refine thenQ_nil ?_
      refine awp_seq ?_
      refine awp_region ?_
      refine awps_stp0 rfl rfl (by decide) (stp_move (.inl rfl) rfl) ?_
      first | refine awps_stp0 rfl rfl (by decide) (stp_fieldAddr rfl fo_api_Term_1 rfl) ?_ | refine awps_stp0 rfl rfl (by decide) (stp_fieldAddr_elp rfl fo_api_Term_1 rfl) ?_
      first | refine awps_stp0 rfl rfl (by decide) (stp_load rfl tf_string rfl rfl rfl rfl rfl) ?_ | refine awps_stp0 rfl rfl (by decide) (stp_load_elp1 rfl tf_string rfl) ?_ | refine awps_stp0 rfl rfl (by decide) (stp_load_elpn rfl tf_string rfl rfl rfl) ?_
      first | refine awps_stp0 rfl rfl (by decide) (stp_load_all rfl tf_api_Term rfl rfl rfl rfl) ?_ | refine awps_stp0 rfl rfl (by decide) (stp_load rfl tf_api_Term rfl rfl rfl rfl rfl) ?_ | refine awps_stp0 rfl rfl (by decide) (stp_load_elpa rfl tf_api_Term rfl rfl) ?_ | refine awps_stp0 rfl rfl (by decide) (stp_load_elpn rfl tf_api_Term rfl rfl rfl) ?_
      refine awps_call (avs := [_, _, _]) true rfl rfl rfl (by decide) en_bind_Stand rfl rfl (Stand_ok l hl a.name ha.2.1 b hb hm) rfl rfl ?_
      refine awps_stp0 rfl rfl (by decide) (stp_extract rfl rfl rfl) ?_
      refine awps_stp0 rfl rfl (by decide) (stp_extract rfl rfl rfl) ?_
      refine awps_sub (sub_untag hQ) ?_
      refine awps_stp0 rfl rfl (by decide) (stp_move (.inr rfl) rfl) ?_
      refine awps_stp0 rfl rfl (by decide) (stp_move (.inr rfl) rfl) ?_
      refine awps_nil ?_
      refine thenQ_nil ?_
      refine awp_ret ?_
      refine thenQ_ret (?_)
      -- leaf 0Tg28F2F
      refine ret0 (noL hL) (.inl rfl) (resAs_tmp rfl (resAs_tmp rfl (resAs_nil))) ?_ ?_
      · rfl
      refine ⟨?_, rfl⟩
      rw [fitR]
      repeat' split
      all_goals first | exact .inl ⟨rfl, rfl⟩ | exact .inr rfl | (exfalso; simp_all; done)
    try simp only [↓str_beq_t, ↓str_beq_f, decide_eq_true_eq, decide_eq_false_iff_not, Bool.not_eq_true', Bool.not_eq_false', Int.not_lt, Int.not_le, beq_iff_eq, beq_eq_false_iff_ne, bne_iff_ne, bne_eq_false_iff_eq, ne_eq] at c0
    refine awp_skip ?_
    refine thenQ_nil ?_
    refine awp_seq ?_
    refine awp_region ?_
    first | refine awps_stp0 rfl rfl (by decide) (stp_load_all rfl tf_api_Term rfl rfl rfl rfl) ?_ | refine awps_stp0 rfl rfl (by decide) (stp_load rfl tf_api_Term rfl rfl rfl rfl rfl) ?_ | refine awps_stp0 rfl rfl (by decide) (stp_load_elpa rfl tf_api_Term rfl rfl) ?_ | refine awps_stp0 rfl rfl (by decide) (stp_load_elpn rfl tf_api_Term rfl rfl rfl) ?_
    first | refine awps_stp0 rfl rfl (by decide) (stp_load_all rfl tf_api_Term rfl rfl rfl rfl) ?_ | refine awps_stp0 rfl rfl (by decide) (stp_load rfl tf_api_Term rfl rfl rfl rfl rfl) ?_ | refine awps_stp0 rfl rfl (by decide) (stp_load_elpa rfl tf_api_Term rfl rfl) ?_ | refine awps_stp0 rfl rfl (by decide) (stp_load_elpn rfl tf_api_Term rfl rfl rfl) ?_
    refine awps_call (avs := [_, _]) false rfl rfl rfl (by decide) en_unify_args rfl rfl (args_ok a b ha hb (by omega)) rfl rfl ?_
    refine awps_stp0 rfl rfl (by decide) (stp_move (.inl rfl) rfl) ?_
    refine awps_stp0 rfl rfl (by decide) (stp_extract rfl rfl rfl) ?_
    refine awps_stp0 rfl rfl (by decide) (stp_extract rfl rfl rfl) ?_
    refine awps_stp0 rfl rfl (by decide) (stp_move (.inr rfl) rfl) ?_
    refine awps_stp0 rfl rfl (by decide) (stp_move (.inr rfl) rfl) ?_
    refine awps_nil ?_
    refine thenQ_nil ?_
    refine awp_seq ?_
    refine awp_seq ?_
    refine awp_region ?_
    refine awps_stp0 rfl rfl (by decide) (stp_move (.inl rfl) rfl) ?_
    refine awps_stp0 rfl rfl (by decide) (stp_not rfl rfl) ?_
    refine awps_nil ?_
    refine thenQ_nil ?_
    refine awp_cond rfl (fun c3 => ?_) (fun c3 => ?_)
    · try simp only [↓str_beq_t, ↓str_beq_f, decide_eq_true_eq, decide_eq_false_iff_not, Bool.not_eq_true', Bool.not_eq_false', Int.not_lt, Int.not_le, beq_iff_eq, beq_eq_false_iff_ne, bne_iff_ne, bne_eq_false_iff_eq, ne_eq] at c3
      refine awp_seq ?_
      refine awp_region ?_
      refine awps_stp0 rfl rfl (by decide) (stp_move (.inr rfl) rfl) ?_
      refine awps_stp0 rfl rfl (by decide) (stp_move (.inr rfl) rfl) ?_
      refine awps_nil ?_
      refine thenQ_nil ?_
      refine awp_ret ?_
      refine thenQ_ret (?_)
      -- leaf 0F3T
      refine ret0 (noL hL) (.inl rfl) (resAs_tmp rfl (resAs_tmp rfl (resAs_nil))) ?_ ?_
      · rfl
      refine ⟨?_, rfl⟩
      rw [fitR]
      repeat' split
      all_goals first | exact .inl ⟨rfl, rfl⟩ | exact .inr rfl | (exfalso; simp_all; done)
    try simp only [↓str_beq_t, ↓str_beq_f, decide_eq_true_eq, decide_eq_false_iff_not, Bool.not_eq_true', Bool.not_eq_false', Int.not_lt, Int.not_le, beq_iff_eq, beq_eq_false_iff_ne, bne_iff_ne, bne_eq_false_iff_eq, ne_eq] at c3
    have hab : argsB a b = true := by simp_all
    have haL : argsL a b = a.args.zip b.args := by rw [argsL, if_pos hab]
    have hpl := prDs_length (a.args.zip b.args)
    have hzl : (a.args.zip b.args).length ≤ 4 := by rw [List.length_zip]; omega
    rw [haL]
    refine awp_skip ?_
    refine thenQ_nil ?_
    refine awp_seq ?_
    refine awp_seq ?_
    refine awp_region ?_
    refine awps_stp0 rfl rfl (by decide) (stp_move (.inl rfl) rfl) ?_
    first | refine awps_stp0 rfl rfl (by decide) (stp_len_dat rfl sl_S_unify_pair rfl) ?_ | refine awps_stp0 rfl rfl (by decide) (stp_len_rowd rfl sl_S_unify_pair rfl rfl) ?_ | refine awps_stp0 rfl rfl (by decide) (stp_len_nil rfl sl_S_unify_pair rfl) ?_ | refine awps_stp0 rfl rfl (by decide) (stp_len_vw rfl sl_S_unify_pair rfl) ?_
    refine awps_stp0 rfl rfl (by decide) (stp_move (.inl rfl) rfl) ?_
    refine awps_nil ?_
    refine thenQ_nil ?_
    refine awp_block ?_
    refine awp_while ((a.args.zip b.args).length) (fun k => k ≤ (a.args.zip b.args).length ∧ (fitL d l ((a.args.zip b.args).take k)).2 = 0) (fun k => ⟨[(0, bdA (fitL d l ((a.args.zip b.args).take k)).1), (52, prA (a.args.zip b.args)), (53, iv (prDs (a.args.zip b.args)).length), (54, iv (k : Int))], []⟩) (⟨by omega, by rw [List.take_zero, fitL]⟩) ?_ (fun k hk hp => ?_)
    · exact sub_re (SubT.cons (lk_eq rfl (by rw [List.take_zero, fitL])) (SubT.cons (lk_eq rfl (by first | rfl | simp)) (SubT.cons (lk_eq rfl (by first | rfl | simp)) (SubT.cons (lk_eq rfl (by first | rfl | simp)) (SubT.nil))))) (SubO.nil) rfl rfl (noL' (noL hL) _)
    have hbk : BOk (fitL d l ((a.args.zip b.args).take k)).1 := fitL_bok d _ l hl fun p hp => by
      have := List.of_mem_zip (List.mem_of_mem_take hp)
      exact ⟨Tm.wfs_mem ha.2.2.2.2 this.1, Tm.wfs_mem hb.2.2.2.2 this.2, may_arg hm this.2⟩
    refine awp_seq ?_
    refine awp_region ?_
    refine awps_stp0 rfl rfl (by decide) (stp_binI rfl rfl rfl rfl) ?_
    refine awps_nil ?_
    refine thenQ_nil ?_
    refine awp_seq ?_
    refine awp_cond rfl (fun c4 => ?_) (fun c4 => ?_)
    · try simp only [↓str_beq_t, ↓str_beq_f, decide_eq_true_eq, decide_eq_false_iff_not, Bool.not_eq_true', Bool.not_eq_false', Int.not_lt, Int.not_le, beq_iff_eq, beq_eq_false_iff_ne, bne_iff_ne, bne_eq_false_iff_eq, ne_eq] at c4
      obtain ⟨q, hq⟩ := get_of_lt (l := a.args.zip b.args) (k := k) (by omega)
      have hqm := List.of_mem_zip (List.mem_of_getElem? hq)
      have hsn := fitL_snoc d q ((a.args.zip b.args).take k) l hp.2
      rw [← take_snoc hq] at hsn
      refine awp_skip ?_
      refine thenQ_nil ?_
      refine awp_seq ?_
      refine awp_block ?_
      refine awp_seq ?_
      refine awp_region ?_
      first | refine awps_stp0 rfl rfl (by decide) (stp_indexAddr rfl sl_S_unify_pair rfl rfl (by omega) (prDs_get hq)) ?_ | refine awps_stp0 rfl rfl (by decide) (stp_indexAddr_rowd rfl sl_S_unify_pair rfl rfl rfl (by omega) (prDs_get hq)) ?_ | refine awps_stp0 rfl rfl (by decide) (stp_indexAddr_row rfl sl_S_unify_pair rfl rfl rfl (by omega) (prDs_get hq) (by decide)) ?_
      first | refine awps_stp0 rfl rfl (by decide) (stp_load_all rfl tf_unify_pair rfl rfl rfl rfl) ?_ | refine awps_stp0 rfl rfl (by decide) (stp_load rfl tf_unify_pair rfl rfl rfl rfl rfl) ?_ | refine awps_stp0 rfl rfl (by decide) (stp_load_elpa rfl tf_unify_pair rfl rfl) ?_ | refine awps_stp0 rfl rfl (by decide) (stp_load_elpn rfl tf_unify_pair rfl rfl rfl) ?_
      refine awps_stp1 rfl rfl (by decide) (stp_alloc 13 rfl zv_unify_pair rfl) rfl ?_
      refine awps_store rfl rfl rfl tf_unify_pair rfl rfl rfl rfl rfl rfl rfl rfl rfl ?_
      refine awps_nil ?_
      refine thenQ_nil ?_
      refine awp_seq ?_
      refine awp_region ?_
      refine awps_stp0 rfl rfl (by decide) (stp_move (.inl rfl) rfl) ?_
      refine awps_stp0 rfl rfl (by decide) (stp_indexAddr_arr rfl (show arB Try.prog 96 2 32 4 = true by kernel_rfl) rfl rfl (by decide) (by decide)) ?_
      first | refine awps_stp0 rfl rfl (by decide) (stp_load_all rfl tf_api_Term rfl rfl rfl rfl) ?_ | refine awps_stp0 rfl rfl (by decide) (stp_load rfl tf_api_Term rfl rfl rfl rfl rfl) ?_ | refine awps_stp0 rfl rfl (by decide) (stp_load_elpa rfl tf_api_Term rfl rfl) ?_ | refine awps_stp0 rfl rfl (by decide) (stp_load_elpn rfl tf_api_Term rfl rfl rfl) ?_
      refine awps_stp0 rfl rfl (by decide) (stp_indexAddr_arr rfl (show arB Try.prog 96 2 32 4 = true by kernel_rfl) rfl rfl (by decide) (by decide)) ?_
      first | refine awps_stp0 rfl rfl (by decide) (stp_load_all rfl tf_api_Term rfl rfl rfl rfl) ?_ | refine awps_stp0 rfl rfl (by decide) (stp_load rfl tf_api_Term rfl rfl rfl rfl rfl) ?_ | refine awps_stp0 rfl rfl (by decide) (stp_load_elpa rfl tf_api_Term rfl rfl) ?_ | refine awps_stp0 rfl rfl (by decide) (stp_load_elpn rfl tf_api_Term rfl rfl rfl) ?_
      refine awps_call (avs := [_, _, _]) false rfl rfl rfl (by decide) en_unify_Fit rfl rfl (Fit_ok d (fitL d l ((a.args.zip b.args).take k)).1 q.1 q.2 (h q.1 hqm.1) (hs.arg hqm.1) (Tm.wfs_mem ha.2.2.2.2 hqm.1) hbk (Tm.wfs_mem hb.2.2.2.2 hqm.2) (may_arg hm hqm.2)) rfl rfl ?_
      refine awps_stp0 rfl rfl (by decide) (stp_move (.inl rfl) rfl) ?_
      refine awps_stp0 rfl rfl (by decide) (stp_extract rfl rfl rfl) ?_
      refine awps_stp0 rfl rfl (by decide) (stp_extract rfl rfl rfl) ?_
      refine awps_stp0 rfl rfl (by decide) (stp_move (.inr rfl) rfl) ?_
      refine awps_stp0 rfl rfl (by decide) (stp_move (.inr rfl) rfl) ?_
      refine awps_nil ?_
      refine thenQ_nil ?_
      refine awp_seq ?_
      refine awp_seq ?_
      refine awp_region ?_
      refine awps_stp0 rfl rfl (by decide) (stp_move (.inl rfl) rfl) ?_
      refine awps_stp0 rfl rfl (by decide) (stp_binI rfl rfl rfl rfl) ?_
      refine awps_nil ?_
      refine thenQ_nil ?_
      refine awp_cond rfl (fun c5 => ?_) (fun c5 => ?_)
      · try simp only [↓str_beq_t, ↓str_beq_f, decide_eq_true_eq, decide_eq_false_iff_not, Bool.not_eq_true', Bool.not_eq_false', Int.not_lt, Int.not_le, beq_iff_eq, beq_eq_false_iff_ne, bne_iff_ne, bne_eq_false_iff_eq, ne_eq] at c5
        refine awp_seq ?_
        refine awp_region ?_
        refine awps_stp0 rfl rfl (by decide) (stp_move (.inl rfl) rfl) ?_
        refine awps_stp0 rfl rfl (by decide) (stp_move (.inr rfl) rfl) ?_
        refine awps_stp0 rfl rfl (by decide) (stp_move (.inr rfl) rfl) ?_
        refine awps_nil ?_
        refine thenQ_nil ?_
        refine awp_ret ?_
        refine thenQ_ret (inQ_ret (thenQ_ret (thenQ_ret (inQ_ret (thenQ_ret (?_))))))
        -- leaf 0F3F4T5T
        refine ret0 (noL hL) (.inl rfl) (resAs_tmp rfl (resAs_tmp rfl (resAs_nil))) ?_ ?_
        · rfl
        refine ⟨?_, rfl⟩
        have e : fitL d l (a.args.zip b.args) = ([], (fitR d (fitL d l ((a.args.zip b.args).take k)).1 q.1 q.2).2) := by
          rw [if_pos c5] at hsn
          have := fitL_stop d ((a.args.zip b.args).take (k + 1)) ((a.args.zip b.args).drop (k + 1)) l (by rw [hsn]; exact c5)
          rw [List.take_append_drop] at this
          rw [this, hsn]
        rw [fitR, if_neg c0, if_pos hab, e]
        exact .inl ⟨rfl, rfl⟩
      try simp only [↓str_beq_t, ↓str_beq_f, decide_eq_true_eq, decide_eq_false_iff_not, Bool.not_eq_true', Bool.not_eq_false', Int.not_lt, Int.not_le, beq_iff_eq, beq_eq_false_iff_ne, bne_iff_ne, bne_eq_false_iff_eq, ne_eq] at c5
      rw [if_neg (by simp [c5])] at hsn
      refine awp_skip ?_
      refine thenQ_nil ?_
      refine awp_region ?_
      refine awps_stp0 rfl rfl (by decide) (stp_move (.inl rfl) rfl) ?_
      refine awps_stp0 rfl rfl (by decide) (stp_move (.inr rfl) rfl) ?_
      refine awps_nil ?_
      refine inQ_nil ?_
      refine thenQ_nil ?_
      refine awp_region ?_
      refine awps_stp0 rfl rfl (by decide) (stp_add rfl rfl rfl (by omega)) ?_
      refine awps_stp0 rfl rfl (by decide) (stp_move (.inl rfl) rfl) ?_
      refine awps_nil ?_
      refine thenQ_nil ?_
      refine ⟨?_, ?_, ?_⟩
      · skip
        omega
      · skip
        exact ⟨by omega, by rw [hsn]⟩
      exact sub_re (SubT.cons (lk_eq rfl (by rw [hsn])) (SubT.cons (lk_eq rfl (by first | rfl | simp)) (SubT.cons (lk_eq rfl (by first | rfl | simp)) (SubT.cons (lk_eq rfl (by first | rfl | simp)) (SubT.nil))))) (SubO.nil) rfl rfl (noL' (noL hL) _)
    try simp only [↓str_beq_t, ↓str_beq_f, decide_eq_true_eq, decide_eq_false_iff_not, Bool.not_eq_true', Bool.not_eq_false', Int.not_lt, Int.not_le, beq_iff_eq, beq_eq_false_iff_ne, bne_iff_ne, bne_eq_false_iff_eq, ne_eq] at c4
    refine awp_exit ?_
    refine thenQ_exit (thenQ_exit (inQ_hit ?_))
    refine thenQ_nil ?_
    refine awp_seq ?_
    refine awp_region ?_
    refine awps_stp0 rfl rfl (by decide) (stp_move (.inl rfl) rfl) ?_
    refine awps_stp0 rfl rfl (by decide) (stp_move (.inr rfl) rfl) ?_
    refine awps_stp0 rfl rfl (by decide) (stp_move (.inr rfl) rfl) ?_
    refine awps_nil ?_
    refine thenQ_nil ?_
    refine awp_ret ?_
    -- leaf 0F3F4F
    refine ret0 (noL hL) (.inl rfl) (resAs_tmp rfl (resAs_tmp rfl (resAs_nil))) ?_ ?_
    · rfl
    refine ⟨?_, rfl⟩
    rw [List.take_of_length_le (by omega)] at hp ⊢
    rw [fitR, if_neg c0, if_pos hab]
    refine .inr ?_
    rw [hp.2]; rfl
def matchC (l : List Bd) (a b : Tm) : Bool := mayB l && groundL l && mayT a && mayT b && groundB b
def matchR (l : List Bd) (a b : Tm) : List Bd × Int := if matchC l a b = true then fitR 5 l a b else ([], 1)
theorem Match_ok (l : List Bd) (hl : ∀ b ∈ l, b.wf) (a b : Tm) (ha : a.wf) (hb : b.wf) : PF 41 [bdA l, tmA false a, tmA false b] (.tup [bdA (matchR l a b).1, iv (matchR l a b).2]) := by
  refine fitPost_ok ?_
  refine AC_intro Try.func41 rfl Try.ntmps41 (Nat.le_of_ble_eq_true rfl) fun c hL hQ => ?_
  refine awp_seq ?_
  refine awp_region ?_
  refine awps_stp1 rfl rfl (by decide) (stp_box 4 rfl rfl rfl) rfl ?_
  refine awps_stp1 rfl rfl (by decide) (stp_box 5 rfl rfl rfl) rfl ?_
  refine awps_stp0 rfl rfl (by decide) (stp_move (.inr rfl) rfl) ?_
  refine awps_stp0 rfl rfl (by decide) (stp_move (.inr rfl) rfl) ?_
  refine awps_nil ?_
  refine thenQ_nil ?_
  refine awp_seq ?_
  refine awp_seq ?_
  refine awp_region ?_
  refine awps_stp0 rfl rfl (by decide) (stp_move (.inl rfl) rfl) ?_
  refine awps_call (avs := [_]) false rfl rfl rfl (by decide) en_bind_May rfl rfl (bindMay_ok l hl) rfl rfl ?_
  refine awps_stp0 rfl rfl (by decide) (stp_not rfl rfl) ?_
  refine awps_stp0 rfl rfl (by decide) (stp_move (.inl rfl) rfl) ?_
  refine awps_split 11 rfl (fun g11 => ?_) (fun g11 => ?_)
  · try simp only [↓str_beq_t, ↓str_beq_f, decide_eq_true_eq, decide_eq_false_iff_not, Bool.not_eq_true', Bool.not_eq_false', Int.not_lt, Int.not_le, beq_iff_eq, beq_eq_false_iff_ne, bne_iff_ne, bne_eq_false_iff_eq, ne_eq] at g11
    refine awps_gs rfl rfl rfl rfl (by decide) rfl (by decide) ?_
    try (have hok := mayB_bok (l := l) (by assumption) hl)
    refine awps_gs rfl rfl rfl rfl (by decide) rfl (by decide) ?_
    refine awps_gs rfl rfl rfl rfl (by decide) rfl (by decide) ?_
    refine awps_stp0 rfl rfl (by decide) (stp_pick rfl rfl rfl) ?_
    refine awps_stp0 rfl rfl (by decide) (stp_move (.inl rfl) rfl) ?_
    refine awps_gs rfl rfl rfl rfl (by decide) rfl (by decide) ?_
    refine awps_gs rfl rfl rfl rfl (by decide) rfl (by decide) ?_
    refine awps_gs rfl rfl rfl rfl (by decide) rfl (by decide) ?_
    refine awps_stp0 rfl rfl (by decide) (stp_pick rfl rfl rfl) ?_
    refine awps_stp0 rfl rfl (by decide) (stp_move (.inl rfl) rfl) ?_
    refine awps_gs rfl rfl rfl rfl (by decide) rfl (by decide) ?_
    refine awps_gs rfl rfl rfl rfl (by decide) rfl (by decide) ?_
    refine awps_gs rfl rfl rfl rfl (by decide) rfl (by decide) ?_
    refine awps_stp0 rfl rfl (by decide) (stp_pick rfl rfl rfl) ?_
    refine awps_stp0 rfl rfl (by decide) (stp_move (.inl rfl) rfl) ?_
    refine awps_gs rfl rfl rfl rfl (by decide) rfl (by decide) ?_
    refine awps_gs rfl rfl rfl rfl (by decide) rfl (by decide) ?_
    refine awps_gs rfl rfl rfl rfl (by decide) rfl (by decide) ?_
    refine awps_stp0 rfl rfl (by decide) (stp_pick rfl rfl rfl) ?_
    refine awps_nil ?_
    refine thenQ_nil ?_
    refine awp_condT rfl ?_
    refine awp_seq ?_
    refine awp_region ?_
    refine awps_stp0 rfl rfl (by decide) (stp_move (.inr rfl) rfl) ?_
    refine awps_stp0 rfl rfl (by decide) (stp_move (.inr rfl) rfl) ?_
    refine awps_nil ?_
    refine thenQ_nil ?_
    refine awp_ret ?_
    refine thenQ_ret (?_)
    -- leaf g11T
    refine ret0 (noL hL) (.inl rfl) (resAs_tmp rfl (resAs_tmp rfl (resAs_nil))) ?_ ?_
    · rfl
    refine ⟨?_, rfl⟩
    rw [matchR]
    first
      | (rw [if_pos hmc]; exact .inr rfl)
      | (rw [if_neg (by simp_all [matchC])]; exact .inl ⟨rfl, rfl⟩)
  try simp only [↓str_beq_t, ↓str_beq_f, decide_eq_true_eq, decide_eq_false_iff_not, Bool.not_eq_true', Bool.not_eq_false', Int.not_lt, Int.not_le, beq_iff_eq, beq_eq_false_iff_ne, bne_iff_ne, bne_eq_false_iff_eq, ne_eq] at g11
  refine awps_g0 rfl rfl rfl (by decide) rfl (by decide) (stp_move (.inl rfl) rfl) ?_
  try (have hok := mayB_bok (l := l) (by assumption) hl)
  refine awps_g0 rfl rfl rfl (by decide) rfl (by decide) (stp_call (avs := [_]) false rfl en_bind_Ground rfl rfl (bindGround_ok l hok) (fun _ => rfl) rfl) ?_
  refine awps_g0 rfl rfl rfl (by decide) rfl (by decide) (stp_not rfl rfl) ?_
  refine awps_stp0 rfl rfl (by decide) (stp_pick rfl rfl rfl) ?_
  refine awps_stp0 rfl rfl (by decide) (stp_move (.inl rfl) rfl) ?_
  refine awps_split 16 rfl (fun g16 => ?_) (fun g16 => ?_)
  · try simp only [↓str_beq_t, ↓str_beq_f, decide_eq_true_eq, decide_eq_false_iff_not, Bool.not_eq_true', Bool.not_eq_false', Int.not_lt, Int.not_le, beq_iff_eq, beq_eq_false_iff_ne, bne_iff_ne, bne_eq_false_iff_eq, ne_eq] at g16
    refine awps_gs rfl rfl rfl rfl (by decide) rfl (by decide) ?_
    refine awps_gs rfl rfl rfl rfl (by decide) rfl (by decide) ?_
    refine awps_gs rfl rfl rfl rfl (by decide) rfl (by decide) ?_
    refine awps_stp0 rfl rfl (by decide) (stp_pick rfl rfl rfl) ?_
    refine awps_stp0 rfl rfl (by decide) (stp_move (.inl rfl) rfl) ?_
    refine awps_gs rfl rfl rfl rfl (by decide) rfl (by decide) ?_
    refine awps_gs rfl rfl rfl rfl (by decide) rfl (by decide) ?_
    refine awps_gs rfl rfl rfl rfl (by decide) rfl (by decide) ?_
    refine awps_stp0 rfl rfl (by decide) (stp_pick rfl rfl rfl) ?_
    refine awps_stp0 rfl rfl (by decide) (stp_move (.inl rfl) rfl) ?_
    refine awps_gs rfl rfl rfl rfl (by decide) rfl (by decide) ?_
    refine awps_gs rfl rfl rfl rfl (by decide) rfl (by decide) ?_
    refine awps_gs rfl rfl rfl rfl (by decide) rfl (by decide) ?_
    refine awps_stp0 rfl rfl (by decide) (stp_pick rfl rfl rfl) ?_
    refine awps_nil ?_
    refine thenQ_nil ?_
    refine awp_condT rfl ?_
    refine awp_seq ?_
    refine awp_region ?_
    refine awps_stp0 rfl rfl (by decide) (stp_move (.inr rfl) rfl) ?_
    refine awps_stp0 rfl rfl (by decide) (stp_move (.inr rfl) rfl) ?_
    refine awps_nil ?_
    refine thenQ_nil ?_
    refine awp_ret ?_
    refine thenQ_ret (?_)
    -- leaf g11Fg16T
    refine ret0 (noL hL) (.inl rfl) (resAs_tmp rfl (resAs_tmp rfl (resAs_nil))) ?_ ?_
    · rfl
    refine ⟨?_, rfl⟩
    rw [matchR]
    first
      | (rw [if_pos hmc]; exact .inr rfl)
      | (rw [if_neg (by simp_all [matchC])]; exact .inl ⟨rfl, rfl⟩)
  try simp only [↓str_beq_t, ↓str_beq_f, decide_eq_true_eq, decide_eq_false_iff_not, Bool.not_eq_true', Bool.not_eq_false', Int.not_lt, Int.not_le, beq_iff_eq, beq_eq_false_iff_ne, bne_iff_ne, bne_eq_false_iff_eq, ne_eq] at g16
  first | refine awps_g0 rfl rfl rfl (by decide) rfl (by decide) (stp_load_all rfl tf_api_Term rfl rfl rfl rfl) ?_ | refine awps_g0 rfl rfl rfl (by decide) rfl (by decide) (stp_load rfl tf_api_Term rfl rfl rfl rfl rfl) ?_ | refine awps_g0 rfl rfl rfl (by decide) rfl (by decide) (stp_load_elpa rfl tf_api_Term rfl rfl) ?_ | refine awps_g0 rfl rfl rfl (by decide) rfl (by decide) (stp_load_elpn rfl tf_api_Term rfl rfl rfl) ?_
  refine awps_g0 rfl rfl rfl (by decide) rfl (by decide) (stp_call (avs := [_]) false rfl en_term_May rfl rfl (May_ok a ha) (fun _ => rfl) rfl) ?_
  refine awps_g0 rfl rfl rfl (by decide) rfl (by decide) (stp_not rfl rfl) ?_
  refine awps_stp0 rfl rfl (by decide) (stp_pick rfl rfl rfl) ?_
  refine awps_stp0 rfl rfl (by decide) (stp_move (.inl rfl) rfl) ?_
  refine awps_split 21 rfl (fun g21 => ?_) (fun g21 => ?_)
  · try simp only [↓str_beq_t, ↓str_beq_f, decide_eq_true_eq, decide_eq_false_iff_not, Bool.not_eq_true', Bool.not_eq_false', Int.not_lt, Int.not_le, beq_iff_eq, beq_eq_false_iff_ne, bne_iff_ne, bne_eq_false_iff_eq, ne_eq] at g21
    refine awps_gs rfl rfl rfl rfl (by decide) rfl (by decide) ?_
    refine awps_gs rfl rfl rfl rfl (by decide) rfl (by decide) ?_
    refine awps_gs rfl rfl rfl rfl (by decide) rfl (by decide) ?_
    refine awps_stp0 rfl rfl (by decide) (stp_pick rfl rfl rfl) ?_
    refine awps_stp0 rfl rfl (by decide) (stp_move (.inl rfl) rfl) ?_
    refine awps_gs rfl rfl rfl rfl (by decide) rfl (by decide) ?_
    refine awps_gs rfl rfl rfl rfl (by decide) rfl (by decide) ?_
    refine awps_gs rfl rfl rfl rfl (by decide) rfl (by decide) ?_
    refine awps_stp0 rfl rfl (by decide) (stp_pick rfl rfl rfl) ?_
    refine awps_nil ?_
    refine thenQ_nil ?_
    refine awp_condT rfl ?_
    refine awp_seq ?_
    refine awp_region ?_
    refine awps_stp0 rfl rfl (by decide) (stp_move (.inr rfl) rfl) ?_
    refine awps_stp0 rfl rfl (by decide) (stp_move (.inr rfl) rfl) ?_
    refine awps_nil ?_
    refine thenQ_nil ?_
    refine awp_ret ?_
    refine thenQ_ret (?_)
    -- leaf g11Fg16Fg21T
    refine ret0 (noL hL) (.inl rfl) (resAs_tmp rfl (resAs_tmp rfl (resAs_nil))) ?_ ?_
    · rfl
    refine ⟨?_, rfl⟩
    rw [matchR]
    first
      | (rw [if_pos hmc]; exact .inr rfl)
      | (rw [if_neg (by simp_all [matchC])]; exact .inl ⟨rfl, rfl⟩)
  try simp only [↓str_beq_t, ↓str_beq_f, decide_eq_true_eq, decide_eq_false_iff_not, Bool.not_eq_true', Bool.not_eq_false', Int.not_lt, Int.not_le, beq_iff_eq, beq_eq_false_iff_ne, bne_iff_ne, bne_eq_false_iff_eq, ne_eq] at g21
  first | refine awps_g0 rfl rfl rfl (by decide) rfl (by decide) (stp_load_all rfl tf_api_Term rfl rfl rfl rfl) ?_ | refine awps_g0 rfl rfl rfl (by decide) rfl (by decide) (stp_load rfl tf_api_Term rfl rfl rfl rfl rfl) ?_ | refine awps_g0 rfl rfl rfl (by decide) rfl (by decide) (stp_load_elpa rfl tf_api_Term rfl rfl) ?_ | refine awps_g0 rfl rfl rfl (by decide) rfl (by decide) (stp_load_elpn rfl tf_api_Term rfl rfl rfl) ?_
  refine awps_g0 rfl rfl rfl (by decide) rfl (by decide) (stp_call (avs := [_]) false rfl en_term_May rfl rfl (May_ok b hb) (fun _ => rfl) rfl) ?_
  refine awps_g0 rfl rfl rfl (by decide) rfl (by decide) (stp_not rfl rfl) ?_
  refine awps_stp0 rfl rfl (by decide) (stp_pick rfl rfl rfl) ?_
  refine awps_stp0 rfl rfl (by decide) (stp_move (.inl rfl) rfl) ?_
  refine awps_split 26 rfl (fun g26 => ?_) (fun g26 => ?_)
  · try simp only [↓str_beq_t, ↓str_beq_f, decide_eq_true_eq, decide_eq_false_iff_not, Bool.not_eq_true', Bool.not_eq_false', Int.not_lt, Int.not_le, beq_iff_eq, beq_eq_false_iff_ne, bne_iff_ne, bne_eq_false_iff_eq, ne_eq] at g26
    refine awps_gs rfl rfl rfl rfl (by decide) rfl (by decide) ?_
    refine awps_gs rfl rfl rfl rfl (by decide) rfl (by decide) ?_
    refine awps_gs rfl rfl rfl rfl (by decide) rfl (by decide) ?_
    refine awps_stp0 rfl rfl (by decide) (stp_pick rfl rfl rfl) ?_
    refine awps_nil ?_
    refine thenQ_nil ?_
    refine awp_condT rfl ?_
    refine awp_seq ?_
    refine awp_region ?_
    refine awps_stp0 rfl rfl (by decide) (stp_move (.inr rfl) rfl) ?_
    refine awps_stp0 rfl rfl (by decide) (stp_move (.inr rfl) rfl) ?_
    refine awps_nil ?_
    refine thenQ_nil ?_
    refine awp_ret ?_
    refine thenQ_ret (?_)
    -- leaf g11Fg16Fg21Fg26T
    refine ret0 (noL hL) (.inl rfl) (resAs_tmp rfl (resAs_tmp rfl (resAs_nil))) ?_ ?_
    · rfl
    refine ⟨?_, rfl⟩
    rw [matchR]
    first
      | (rw [if_pos hmc]; exact .inr rfl)
      | (rw [if_neg (by simp_all [matchC])]; exact .inl ⟨rfl, rfl⟩)
  try simp only [↓str_beq_t, ↓str_beq_f, decide_eq_true_eq, decide_eq_false_iff_not, Bool.not_eq_true', Bool.not_eq_false', Int.not_lt, Int.not_le, beq_iff_eq, beq_eq_false_iff_ne, bne_iff_ne, bne_eq_false_iff_eq, ne_eq] at g26
  first | refine awps_g0 rfl rfl rfl (by decide) rfl (by decide) (stp_load_all rfl tf_api_Term rfl rfl rfl rfl) ?_ | refine awps_g0 rfl rfl rfl (by decide) rfl (by decide) (stp_load rfl tf_api_Term rfl rfl rfl rfl rfl) ?_ | refine awps_g0 rfl rfl rfl (by decide) rfl (by decide) (stp_load_elpa rfl tf_api_Term rfl rfl) ?_ | refine awps_g0 rfl rfl rfl (by decide) rfl (by decide) (stp_load_elpn rfl tf_api_Term rfl rfl rfl) ?_
  refine awps_g0 rfl rfl rfl (by decide) rfl (by decide) (stp_call (avs := [_]) false rfl en_term_Is rfl rfl (Is_ok b hb (by assumption)) (fun _ => rfl) rfl) ?_
  refine awps_g0 rfl rfl rfl (by decide) rfl (by decide) (stp_not rfl rfl) ?_
  refine awps_stp0 rfl rfl (by decide) (stp_pick rfl rfl rfl) ?_
  refine awps_nil ?_
  refine thenQ_nil ?_
  refine awp_cond rfl (fun c0 => ?_) (fun c0 => ?_)
  · try simp only [↓str_beq_t, ↓str_beq_f, decide_eq_true_eq, decide_eq_false_iff_not, Bool.not_eq_true', Bool.not_eq_false', Int.not_lt, Int.not_le, beq_iff_eq, beq_eq_false_iff_ne, bne_iff_ne, bne_eq_false_iff_eq, ne_eq] at c0
    refine awp_seq ?_
    refine awp_region ?_
    refine awps_stp0 rfl rfl (by decide) (stp_move (.inr rfl) rfl) ?_
    refine awps_stp0 rfl rfl (by decide) (stp_move (.inr rfl) rfl) ?_
    refine awps_nil ?_
    refine thenQ_nil ?_
    refine awp_ret ?_
    refine thenQ_ret (?_)
    -- leaf g11Fg16Fg21Fg26F0T
    refine ret0 (noL hL) (.inl rfl) (resAs_tmp rfl (resAs_tmp rfl (resAs_nil))) ?_ ?_
    · rfl
    refine ⟨?_, rfl⟩
    rw [matchR]
    first
      | (rw [if_pos hmc]; exact .inr rfl)
      | (rw [if_neg (by simp_all [matchC])]; exact .inl ⟨rfl, rfl⟩)
  try simp only [↓str_beq_t, ↓str_beq_f, decide_eq_true_eq, decide_eq_false_iff_not, Bool.not_eq_true', Bool.not_eq_false', Int.not_lt, Int.not_le, beq_iff_eq, beq_eq_false_iff_ne, bne_iff_ne, bne_eq_false_iff_eq, ne_eq] at c0
  have hmc : matchC l a b = true := by simp_all [matchC]
  have hml : mayB l = true := by simp_all
  have hma : mayT a = true := by simp_all
  have hmb : mayT b = true := by simp_all
  have hok := mayB_bok hml hl
  refine awp_skip ?_
  refine thenQ_nil ?_
  refine awp_seq ?_
  refine awp_drawG 7 mixed rfl rfl rfl rfl ?_
  refine MGo_c0 rfl (by decide) (.run rfl (stp_move (.inl rfl) rfl)) ?_
  refine MGo_c0 rfl (by decide) (.run rfl (stp_call (avs := [_]) false rfl en_bind_Own rfl rfl (bindOwnF_ok l hok) (fun _ => rfl) rfl)) ?_
  first | refine MGo_c0 rfl (by decide) (.run rfl (stp_load_all rfl tf_api_Term rfl rfl rfl rfl)) ?_ | refine MGo_c0 rfl (by decide) (.run rfl (stp_load rfl tf_api_Term rfl rfl rfl rfl rfl)) ?_ | refine MGo_c0 rfl (by decide) (.run rfl (stp_load_elpa rfl tf_api_Term rfl rfl)) ?_ | refine MGo_c0 rfl (by decide) (.run rfl (stp_load_elpn rfl tf_api_Term rfl rfl rfl)) ?_
  first | refine MGo_c0 rfl (by decide) (.run rfl (stp_load_all rfl tf_api_Term rfl rfl rfl rfl)) ?_ | refine MGo_c0 rfl (by decide) (.run rfl (stp_load rfl tf_api_Term rfl rfl rfl rfl rfl)) ?_ | refine MGo_c0 rfl (by decide) (.run rfl (stp_load_elpa rfl tf_api_Term rfl rfl)) ?_ | refine MGo_c0 rfl (by decide) (.run rfl (stp_load_elpn rfl tf_api_Term rfl rfl rfl)) ?_
  refine MGo_c0 rfl (by decide) (.run rfl (stp_call (avs := [_, _, _]) false rfl en_unify_Fit rfl rfl (Fit_ok 5 l a b (may_dle hma) (may_shp hma) ha hok hb hmb) (fun _ => rfl) rfl)) ?_
  refine MGo_c0 rfl (by decide) (.run rfl (stp_extract rfl rfl rfl)) ?_
  refine MGo_c0 rfl (by decide) (.run rfl (stp_extract rfl rfl rfl)) ?_
  refine MGo_nil ⟨rfl, rfl, ?_⟩
  refine awps_stp0 rfl rfl (by decide) (stp_move (.inr rfl) rfl) ?_
  refine awps_stp0 rfl rfl (by decide) (stp_move (.inr rfl) rfl) ?_
  refine awps_nil ?_
  refine thenQ_nil ?_
  refine awp_ret ?_
  -- leaf g11Fg16Fg21Fg26F0F
  refine ret0 (noL hL) (.inl rfl) (resAs_tmp rfl (resAs_tmp rfl (resAs_nil))) ?_ ?_
  · rfl
  refine ⟨?_, rfl⟩
  rw [matchR]
  first
    | (rw [if_pos hmc]; exact .inr rfl)
    | (rw [if_neg (by simp_all [matchC])]; exact .inl ⟨rfl, rfl⟩)
theorem Match0_ok (a b : Tm) (ha : a.wf) (hb : b.wf) : PF 41 [.imm (.slice none 0 0), tmA false a, tmA false b] (.tup [bdA (matchR [] a b).1, iv (matchR [] a b).2]) :=
  AC_le (.cons .nil (.cons .refl (.cons .refl .nil))) (Match_ok [] nil_bwf a b ha hb)
end Go.Proofs.Ytdecgkhdbfgldaa

set_option linter.unusedVariables false
set_option linter.unusedSimpArgs false
namespace Go.Proofs.Ytdecgkhdbfgldaa
open Go
theorem uni_err : ∀ (n : Nat) (l : List Bd) (ps : List (Tm × Tm)) (R : List Bd × Int), GB l → (∀ p ∈ ps, PK p) → uIter n l ps = some R → R.2 = 0 ∨ (R.1 = [] ∧ (R.2 = 2 ∨ R.2 = 3))
  | n, l, [], R, h, _, e => by
    have : (l, 0) = R := by cases n <;> simpa [uIter] using e
    subst this
    exact .inl rfl
  | 0, l, p :: ps, x, _, _, e => by simp [uIter] at e
  | n + 1, l, p :: ps, R, h, hp, e => by
    rw [uIter] at e
    split at e
    · rename_i hc
      simp only [Option.some.injEq] at e
      subst e
      rcases one_spec h (hp p (by simp)) with h1 | ⟨h1, h2⟩ | h1
      · exact .inr ⟨rfl, .inl h1⟩
      · exact .inr ⟨rfl, .inr h1⟩
      · exfalso
        obtain ⟨_, _, ⟨e1, _⟩ | ⟨z, u, _, _, e1, _⟩ | ⟨e1, _⟩⟩ := h1 <;> rw [e1] at hc <;> exact hc rfl
    rename_i he
    have he : (oneR l p).2.2 = 0 := by simpa using he
    obtain ⟨g1, g2, g3⟩ := one_keeps h (hp p (by simp)) he
    exact uni_err n _ _ R g1 (fun q hq => by
      rcases List.mem_append.1 hq with hq | hq
      · exact g2 q hq
      · exact hp q (by simp [hq])) e
theorem uni_dom (P : ByteArray → Prop) : ∀ (n : Nat) (l : List Bd) (ps : List (Tm × Tm)) (x : List Bd), GB l → (∀ p ∈ ps, PK p) → (∀ y, hasB l y = true → P y) → (∀ y z, P y → (gB l y).occ z → P z) → (∀ p ∈ ps, ∀ y, p.1.occ y ∨ p.2.occ y → P y) → uIter n l ps = some (x, 0) → (∀ y, hasB x y = true → P y) ∧ (∀ y z, P y → (gB x y).occ z → P z)
  | n, l, [], x, h, _, h1, h2, _, e => by
    have : l = x := by cases n <;> simpa [uIter] using e
    subst this
    exact ⟨h1, h2⟩
  | 0, l, p :: ps, x, _, _, _, _, _, e => by simp [uIter] at e
  | n + 1, l, p :: ps, x, h, hp, h1, h2, h3, e => by
    rw [uIter] at e
    split at e
    · simp only [Option.some.injEq, Prod.mk.injEq] at e; rename_i hc; exact absurd e.2 hc
    rename_i he
    have he : (oneR l p).2.2 = 0 := by simpa using he
    have hpp := hp p (by simp)
    obtain ⟨g1, g2, g3⟩ := one_keeps h hpp he
    have ka : ∀ z, (p.1.sub (gB l)).occ z → P z := fun z hz => by
      obtain ⟨y, hy, hz⟩ := (occ_sub _ z p.1 hpp.1.1).1 hz
      exact h2 y z (h3 p (by simp) y (.inl hy)) hz
    have kb : ∀ z, (p.2.sub (gB l)).occ z → P z := fun z hz => by
      obtain ⟨y, hy, hz⟩ := (occ_sub _ z p.2 hpp.2.1).1 hz
      exact h2 y z (h3 p (by simp) y (.inr hy)) hz
    refine uni_dom P n _ _ x g1 (fun q hq => by
      rcases List.mem_append.1 hq with hq | hq
      · exact g2 q hq
      · exact hp q (by simp [hq])) ?_ ?_ ?_ e
    · obtain ⟨m1, m2, ⟨e1, e2⟩ | ⟨z, u, hab, hus, e1, _, _, hgb, hh⟩ | ⟨e1, _⟩⟩ := g3
      · rw [e1]; exact h1
      · intro y hy
        rw [hh, Bool.or_eq_true, decide_eq_true_eq] at hy
        rcases hy with hy | rfl
        · exact h1 y hy
        · rcases hab with ⟨ha, _⟩ | ⟨hb, _⟩
          · exact ka _ (by rw [ha, varT_occ])
          · exact kb _ (by rw [hb, varT_occ])
      · rw [e1]; exact h1
    · obtain ⟨m1, m2, ⟨e1, e2⟩ | ⟨z, u, hab, hus, e1, _, _, hgb, hh⟩ | ⟨e1, _⟩⟩ := g3
      · rw [e1]; exact h2
      · intro y w hy hw
        have hz : varB z = true := by
          rcases hab with ⟨ha, _⟩ | ⟨hb, _⟩
          · exact occ_var (ap_shp h hpp.1.1) (y := z) (by rw [ha, varT_occ])
          · exact occ_var (ap_shp h hpp.2.1) (y := z) (by rw [hb, varT_occ])
        have hu : ∀ v, u.occ v → P v := fun v hv => by
          rcases hab with ⟨_, hb⟩ | ⟨_, ha⟩
          · exact kb v (by rw [hb]; exact hv)
          · exact ka v (by rw [ha]; exact hv)
        rw [hgb] at hw
        rcases gB_cases h.ris y with ⟨b, hb, _, eb⟩ | ⟨_, eb⟩
        · have hs := may_shp (h.el b hb).2.2
          rw [eb, occ_sub _ _ _ hs] at hw
          obtain ⟨v, hv, hw⟩ := hw
          rw [gB_one] at hw
          split at hw
          · exact hu w hw
          · rw [varT_occ] at hw; subst hw
            exact h2 y v hy (by rw [eb]; exact hv)
        · rw [eb, varT_sub, gB_one] at hw
          split at hw
          · exact hu w hw
          · rw [varT_occ] at hw; subst hw; exact hy
      · rw [e1]; exact h2
    · intro q hq y hy
      rcases List.mem_append.1 hq with hq | hq
      · obtain ⟨m1, m2, ⟨e1, e2⟩ | ⟨z, u, hab, hus, e1, _⟩ | ⟨e1, _⟩⟩ := g3
        · rw [e1] at hq; cases hq
        · rw [e1] at hq; cases hq
        · rw [e1] at hq
          have hm := List.of_mem_zip hq
          rcases hy with hy | hy
          · exact ka y ((Tm.occ_iff _ _).2 (.inr ⟨q.1, hm.1, hy⟩))
          · exact kb y ((Tm.occ_iff _ _).2 (.inr ⟨q.2, hm.2, hy⟩))
      · exact h3 q (by simp [hq]) y hy
theorem nodup_of : ∀ l : List ByteArray, ∃ L : List ByteArray, L.Nodup ∧ ∀ s, s ∈ L ↔ s ∈ l
  | [] => ⟨[], List.nodup_nil, fun s => Iff.rfl⟩
  | a :: l => by
    obtain ⟨L, h1, h2⟩ := nodup_of l
    by_cases ha : a ∈ L
    · refine ⟨L, h1, fun s => ?_⟩
      rw [List.mem_cons, h2]
      constructor
      · intro h; exact .inr h
      · rintro (rfl | h)
        · exact (h2 _).1 ha
        · exact h
    · exact ⟨a :: L, List.nodup_cons.2 ⟨ha, h1⟩, fun s => by rw [List.mem_cons, List.mem_cons, h2]⟩
theorem names_nodup {x : List Bd} (h : RisB x) : (x.map Bd.name).Nodup := by
  rw [List.Nodup, List.pairwise_map]
  exact h.imp fun {a b} hab e => by rw [e, ltS_irrefl] at hab; cases hab
theorem bound_count {x : List Bd} (h : RisB x) {V : List ByteArray} (hV : V.Nodup) (hd : ∀ y, hasB x y = true → y ∈ V) : x.length + (V.filter (fun y => !hasB x y)).length = V.length := by
  have hn : (x.map Bd.name ++ V.filter (fun y => !hasB x y)).Nodup := by
    rw [List.nodup_append]
    refine ⟨names_nodup h, hV.filter _, fun a ha b hb e => ?_⟩
    subst e
    obtain ⟨c, hc, rfl⟩ := List.mem_map.1 ha
    have := (List.mem_filter.1 hb).2
    rw [(hasB_iff x c.name).2 ⟨c, hc, rfl⟩] at this; cases this
  have e : (x.map Bd.name ++ V.filter (fun y => !hasB x y)).length = x.length + (V.filter (fun y => !hasB x y)).length := by simp
  have h1 := hn.length_le_of_subset (l₂ := V) fun s hs => by
    rcases List.mem_append.1 hs with hs | hs
    · obtain ⟨c, hc, rfl⟩ := List.mem_map.1 hs
      exact hd _ ((hasB_iff x c.name).2 ⟨c, hc, rfl⟩)
    · exact (List.mem_filter.1 hs).1
  have h2 := hV.length_le_of_subset (l₂ := x.map Bd.name ++ V.filter (fun y => !hasB x y)) fun s hs => by
    rw [List.mem_append]
    cases hh : hasB x s with
    | true =>
      obtain ⟨c, hc, rfl⟩ := (hasB_iff x s).1 hh
      exact .inl (List.mem_map.2 ⟨c, hc, rfl⟩)
    | false => exact .inr (List.mem_filter.2 ⟨hs, by simp [hh]⟩)
  omega
theorem sub_isvar {t : Tm} {g : ByteArray → Tm} {v : ByteArray} (h : t.sub g = varT v) : t.kind = 1 := by
  by_cases hk : t.kind = 1
  · exact hk
  · rw [Tm.sub_eq, if_neg hk] at h
    simp only [varT, Tm.mk.injEq] at h
    exact absurd h.1 hk
theorem map_nodup {α β : Type} {f : α → β} {l : List α} (hn : l.Nodup) (hf : ∀ a ∈ l, ∀ b ∈ l, f a = f b → a = b) : (l.map f).Nodup := by
  rw [List.Nodup, List.pairwise_map]
  refine List.Pairwise.imp_of_mem (fun {a b} ha hb hne e => hne (hf a ha b hb e)) hn
theorem free_le {x y : List Bd} (hx : GB x) (hy : GB y) {V : List ByteArray} (hV : V.Nodup) (hvar : ∀ v ∈ V, varB v = true) (hr : ∀ v ∈ V, ∀ z, (gB y v).occ z → z ∈ V) (hs : ∀ v, (gB y v).sub (gB x) = gB x v) : (V.filter (fun v => !hasB x v)).length ≤ (V.filter (fun v => !hasB y v)).length := by
  have key : ∀ v ∈ V.filter (fun v => !hasB x v), gB y v = varT (gB y v).name ∧ (gB y v).name ∈ V.filter (fun v => !hasB y v) ∧ gB x (gB y v).name = varT v := fun v hv => by
    obtain ⟨h1, h2⟩ := List.mem_filter.1 hv
    have e1 := gB_none hx.ris (y := v) (by simpa using h2)
    have e2 := hs v
    rw [e1] at e2
    have hk := sub_isvar e2
    have hsh := gB_shp hy (hvar v h1)
    have e3 : gB y v = varT (gB y v).name := (hsh.var hk).1
    have ho : (gB y v).occ (gB y v).name := (Tm.occ_iff _ _).2 (.inl ⟨hk, rfl⟩)
    refine ⟨e3, List.mem_filter.2 ⟨hr v h1 _ ho, by simp [gB_occ hy ho]⟩, ?_⟩
    rw [e3, varT_sub] at e2
    exact e2
  have hn : ((V.filter (fun v => !hasB x v)).map (fun v => (gB y v).name)).Nodup := map_nodup (hV.filter _) fun a ha b hb e => by
    have h1 := (key a ha).2.2
    have h2 := (key b hb).2.2
    rw [e, h2] at h1
    simp only [varT, Tm.mk.injEq] at h1
    exact h1.2.1.symm
  have := hn.length_le_of_subset (l₂ := V.filter (fun v => !hasB y v)) fun s hs => by
    obtain ⟨v, hv, rfl⟩ := List.mem_map.1 hs
    exact (key v hv).2.1
  rwa [List.length_map] at this
theorem nil_sub (θ : ByteArray → Tm) (y : ByteArray) : (gB [] y).sub θ = θ y := by rw [gB_nil, varT_sub]
theorem uni_count {a b : Tm} (ha : TK a) (hb : TK b) {n m : Nat} {x y : List Bd} (h1 : uIter n [] [(a, b)] = some (x, 0)) (h2 : uIter m [] [(b, a)] = some (y, 0)) : x.length = y.length := by
  have p1 : ∀ p ∈ [(a, b)], PK p := fun p hp => by simp only [List.mem_cons, List.not_mem_nil, or_false] at hp; subst hp; exact ⟨ha, hb⟩
  have p2 : ∀ p ∈ [(b, a)], PK p := fun p hp => by simp only [List.mem_cons, List.not_mem_nil, or_false] at hp; subst hp; exact ⟨hb, ha⟩
  obtain ⟨x1, x2, x3⟩ := uni_sound n [] _ x GB_nil p1 h1
  obtain ⟨y1, y2, y3⟩ := uni_sound m [] _ y GB_nil p2 h2
  have ux := x3 (a, b) (by simp)
  have uy := y3 (b, a) (by simp)
  have cx := uni_complete (gB y) n [] _ (x, 0) GB_nil p1 (nil_sub _) (fun p hp => by simp only [List.mem_cons, List.not_mem_nil, or_false] at hp; subst hp; exact uy.symm) h1
  have cy := uni_complete (gB x) m [] _ (y, 0) GB_nil p2 (nil_sub _) (fun p hp => by simp only [List.mem_cons, List.not_mem_nil, or_false] at hp; subst hp; exact ux.symm) h2
  have cx : ∀ v, (gB x v).sub (gB y) = gB y v := by rcases cx with h | h; exact h.2; cases h
  have cy : ∀ v, (gB y v).sub (gB x) = gB x v := by rcases cy with h | h; exact h.2; cases h
  obtain ⟨V, hV, hm⟩ := nodup_of (noteS 5 a [] ++ noteS 5 b [])
  have hmem : ∀ s, s ∈ V ↔ a.occ s ∨ b.occ s := fun s => by rw [hm, List.mem_append, note_occ s 5 a ha.2.1, note_occ s 5 b hb.2.1]
  have hvar : ∀ v ∈ V, varB v = true := fun v hv => by
    rcases (hmem v).1 hv with h | h
    · exact occ_var ha.1 h
    · exact occ_var hb.1 h
  have dx := uni_dom (fun s => s ∈ V) n [] _ x GB_nil p1 (fun y hy => by cases hy) (fun y z hy hz => by rw [gB_nil, varT_occ] at hz; rwa [← hz]) (fun p hp s hs => by simp only [List.mem_cons, List.not_mem_nil, or_false] at hp; subst hp; exact (hmem s).2 hs) h1
  have dy := uni_dom (fun s => s ∈ V) m [] _ y GB_nil p2 (fun y hy => by cases hy) (fun y z hy hz => by rw [gB_nil, varT_occ] at hz; rwa [← hz]) (fun p hp s hs => by simp only [List.mem_cons, List.not_mem_nil, or_false] at hp; subst hp; exact (hmem s).2 hs.symm) h2
  have n1 := bound_count x1.ris hV dx.1
  have n2 := bound_count y1.ris hV dy.1
  have f1 := free_le x1 y1 hV hvar (fun v hv z hz => dy.2 v z hv hz) cy
  have f2 := free_le y1 x1 hV hvar (fun v hv z hz => dx.2 v z hv hz) cx
  omega
theorem uni_alike {a b : Tm} (ma : mayT a = true) (mb : mayT b = true) (wa : a.wf) (wb : b.wf) {n m : Nat} {R Q : List Bd × Int} (h1 : uIter n [] [(a, b)] = some R) (h2 : uIter m [] [(b, a)] = some Q) :
    ((R.2 = 0 ∧ Q.2 ≠ 0 → Q.2 = 2) ∧ (R.2 ≠ 0 ∧ Q.2 = 0 → R.2 = 2)) ∧ (R.2 = 0 → GB R.1 ∧ putT R.1 a = putT R.1 b) ∧ (R.2 = 0 ∧ Q.2 = 0 → R.1.length = Q.1.length) ∧ R.2 ≠ 1 := by
  have ha := TK_may ma wa
  have hb := TK_may mb wb
  have p1 : ∀ p ∈ [(a, b)], PK p := fun p hp => by simp only [List.mem_cons, List.not_mem_nil, or_false] at hp; subst hp; exact ⟨ha, hb⟩
  have p2 : ∀ p ∈ [(b, a)], PK p := fun p hp => by simp only [List.mem_cons, List.not_mem_nil, or_false] at hp; subst hp; exact ⟨hb, ha⟩
  obtain ⟨x, e⟩ := R
  obtain ⟨y, f⟩ := Q
  simp only
  refine ⟨⟨fun ⟨he, hf⟩ => ?_, fun ⟨he, hf⟩ => ?_⟩, fun he => ?_, fun ⟨he, hf⟩ => ?_, ?_⟩
  · subst he
    obtain ⟨_, _, x3⟩ := uni_sound n [] _ x GB_nil p1 h1
    have ux := x3 (a, b) (by simp)
    rcases uni_complete (gB x) m [] _ _ GB_nil p2 (nil_sub _) (fun p hp => by simp only [List.mem_cons, List.not_mem_nil, or_false] at hp; subst hp; exact ux.symm) h2 with h | h
    · exact absurd h.1 hf
    · exact h
  · subst hf
    obtain ⟨_, _, x3⟩ := uni_sound m [] _ y GB_nil p2 h2
    have ux := x3 (b, a) (by simp)
    rcases uni_complete (gB y) n [] _ _ GB_nil p1 (nil_sub _) (fun p hp => by simp only [List.mem_cons, List.not_mem_nil, or_false] at hp; subst hp; exact ux.symm) h1 with h | h
    · exact absurd h.1 he
    · exact h
  · subst he
    obtain ⟨x1, _, x3⟩ := uni_sound n [] _ x GB_nil p1 h1
    have ux := x3 (a, b) (by simp)
    exact ⟨x1, by rw [putT_sub (may_dle ma), putT_sub (may_dle mb)]; exact ux⟩
  · subst he; subst hf
    exact uni_count ha hb h1 h2
  · intro he
    rcases uni_err n [] _ _ GB_nil p1 h1 with h | ⟨_, h | h⟩ <;> simp only at h <;> omega
theorem uni_exists {a b : Tm} (wa : a.wf) (wb : b.wf) : ∃ R, uniP [] a b R := by
  by_cases h : mayT a = true ∧ mayT b = true
  · obtain ⟨n, R, e⟩ := uni_total 16 (wgh [] [(a, b)]) [] [(a, b)] GB_nil (fun p hp => by simp only [List.mem_cons, List.not_mem_nil, or_false] at hp; subst hp; exact ⟨TK_may h.1 wa, TK_may h.2 wb⟩) (by simp) (Nat.le_refl _)
    exact ⟨R, .inl ⟨by kernel_rfl, h.1, h.2, n, e⟩⟩
  · exact ⟨([], 1), .inr ⟨fun ⟨_, h2⟩ => h h2, rfl⟩⟩
end Go.Proofs.Ytdecgkhdbfgldaa

set_option linter.unusedVariables false
set_option linter.unusedSimpArgs false
namespace Go.Proofs.Ytdecgkhdbfgldaa
open Go
def Gr (t : Tm) : Prop := ∀ y, ¬ t.occ y
theorem Gr.arg {t u : Tm} (h : Gr t) (hu : u ∈ t.args) : Gr u := fun y hy => h y ((Tm.occ_iff _ _).2 (.inr ⟨u, hu, hy⟩))
theorem Gr.sub {t : Tm} (h : Gr t) (hs : t.shp) (g : ByteArray → Tm) : t.sub g = t := sub_id hs fun y hy => absurd hy (h y)
theorem groundB_iff {t : Tm} (hd : dle 5 t) : groundB t = true ↔ Gr t := by
  rw [groundB, List.isEmpty_iff]
  constructor
  · intro h y hy
    have := (note_occ y 5 t hd).2 hy
    rw [h] at this; cases this
  · intro h
    exact List.eq_nil_iff_forall_not_mem.2 fun y hy => h y ((note_occ y 5 t hd).1 hy)
structure GG (l : List Bd) : Prop where
  gb : GB l
  gr : ∀ b ∈ l, Gr b.t
theorem GG_nil : GG [] := ⟨GB_nil, fun b hb => by cases hb⟩
theorem GG.get {l : List Bd} (h : GG l) {y : ByteArray} (hy : hasB l y = true) : Gr (gB l y) ∧ mayT (gB l y) = true := by
  obtain ⟨b, hb, rfl⟩ := (hasB_iff l y).1 hy
  rw [gB_mem h.gb.ris hb]
  exact ⟨h.gr b hb, (h.gb.el b hb).2.2⟩
theorem stand_ground {l : List Bd} (h : GG l) {x : ByteArray} {t : Tm} (hx : varB x = true) (hxs : x.size ≤ 140737488351232) (hw : t.wf) (hm : mayT t = true) (hg : Gr t) (hl : hasB l x = false) (he : standE l x t = 0) :
    GG (standL l x t) ∧ (standL l x t).length = l.length + 1 ∧ (∀ y, hasB l y = true → gB (standL l x t) y = gB l y) ∧ gB (standL l x t) x = t ∧ ∀ y, hasB (standL l x t) y = (hasB l y || decide (x = y)) := by
  obtain ⟨h1, h2, h3, h4⟩ := stand_spec h.gb hx hxs hw hm hl (hg x) (fun y hy => absurd hy (hg y)) he
  have k1 : ∀ y, hasB l y = true → gB (standL l x t) y = gB l y := fun y hy => by
    rw [h3, (h.get hy).1.sub (may_shp (h.get hy).2)]
  have k2 : gB (standL l x t) x = t := by rw [h3, gB_none h.gb.ris hl, varT_sub, gB_one, if_pos rfl]
  refine ⟨⟨h1, fun b hb => ?_⟩, h2, k1, k2, h4⟩
  have e := gB_mem h1.ris hb
  have hh := h4 b.name
  rw [(hasB_iff _ _).2 ⟨b, hb, rfl⟩] at hh
  rw [← e]
  cases hc : hasB l b.name with
  | true => rw [k1 _ hc]; exact (h.get hc).1
  | false =>
    rw [hc] at hh
    have : x = b.name := by simpa using hh.symm
    rw [← this, k2]; exact hg
theorem standE_ground {l : List Bd} (h : GG l) {x : ByteArray} {t : Tm} (hl : l.length < 16) : standE l x t = 0 := by
  rw [standE, if_neg]
  rintro (h1 | h1)
  · omega
  · obtain ⟨b, hb, h2⟩ := List.all_eq_false.1 h1
    apply h2
    have hm := (h.gb.el b hb).2.2
    have e : putT [⟨x, t⟩] b.t = b.t := by rw [putT_sub (may_dle hm), (h.gr b hb).sub (may_shp hm)]
    simp only [decide_eq_true_eq]
    rw [intoE, e, if_pos hm]
structure FitOk (l m : List Bd) (occ : ByteArray → Prop) : Prop where
  gg : GG m
  old : ∀ y, hasB l y = true → hasB m y = true ∧ gB m y = gB l y
  dom : ∀ y, hasB m y = true ↔ hasB l y = true ∨ occ y
theorem zip_map {f : Tm → Tm} : ∀ {x y : List Tm}, x.length = y.length → (∀ p ∈ x.zip y, f p.1 = p.2) → x.map f = y
  | [], [], _, _ => rfl
  | a :: x, b :: y, hl, h => by
    rw [List.map_cons, zip_map (x := x) (y := y) (by simpa using hl) fun p hp => h p (by simp [hp]), h (a, b) (by simp)]
  | [], _ :: _, hl, _ => by simp at hl
  | _ :: _, [], hl, _ => by simp at hl
mutual
theorem fit_spec : ∀ (d : Nat) (l : List Bd) (a b : Tm), GG l → a.shp → a.wf → mayT b = true → b.wf → Gr b → (fitR d l a b).2 = 0 → FitOk l (fitR d l a b).1 (fun y => a.occ y) ∧ a.sub (gB (fitR d l a b).1) = b
  | 0, l, a, b, _, _, _, _, _, _, h => by rw [fitR] at h; cases h
  | d + 1, l, a, b, hl, hs, hw, hm, hbw, hg, h => by
    rw [fitR] at h ⊢
    by_cases hk : a.kind = 1
    · rw [if_pos hk] at h ⊢
      have ev := hs.var hk
      have hocc : ∀ y, a.occ y ↔ a.name = y := fun y => by rw [ev.1]; exact varT_occ a.name y
      by_cases hh : hasB l a.name = true
      · rw [if_pos hh] at h ⊢
        by_cases hc : cmpT 5 (lookT l a.name) b = 0
        · rw [if_pos hc]
          obtain ⟨c, hc1, hc2⟩ := (hasB_iff l a.name).1 hh
          have e1 : lookT l a.name = c.t := by rw [← hc2, lookT_mem hl.gb.ris hc1]
          have e2 : gB l a.name = c.t := by rw [← hc2, gB_mem hl.gb.ris hc1]
          have e3 := (eqT_iff 5 _ _ (may_dle (hl.gb.el c hc1).2.2)).1 ((cmpT_zero 5 _ _ (may_dle (hl.gb.el c hc1).2.2)).1 (e1 ▸ hc))
          refine ⟨⟨hl, fun y hy => ⟨hy, rfl⟩, fun y => ⟨fun h => .inl h, ?_⟩⟩, ?_⟩
          · rintro (h | h)
            · exact h
            · rw [hocc] at h; rw [← h]; exact hh
          · rw [Tm.sub_eq, if_pos hk, e2, e3]
        · rw [if_neg hc] at h; cases h
      · rw [if_neg hh] at h ⊢
        have hno : hasB l a.name = false := by simpa using hh
        obtain ⟨g1, g2, g3, g4, g5⟩ := stand_ground hl ev.2 hw.2.1 hbw hm hg hno h
        refine ⟨⟨g1, fun y hy => ⟨by rw [g5, hy]; rfl, g3 y hy⟩, fun y => ?_⟩, ?_⟩
        · rw [g5, Bool.or_eq_true, decide_eq_true_eq, hocc]
        · rw [Tm.sub_eq, if_pos hk]; exact g4
    · rw [if_neg hk] at h ⊢
      by_cases hc : argsB a b = true
      · rw [if_pos hc] at h ⊢
        have hc2 := hc
        simp only [argsB, Bool.and_eq_true, decide_eq_true_eq] at hc2
        obtain ⟨f1, f2⟩ := fits_spec d (a.args.zip b.args) l hl (fun p hp => by
          have := List.of_mem_zip hp
          exact ⟨hs.arg this.1, Tm.wfs_mem hw.2.2.2.2 this.1, may_arg hm this.2, Tm.wfs_mem hbw.2.2.2.2 this.2, hg.arg this.2⟩) h
        refine ⟨⟨f1.gg, f1.old, fun y => ?_⟩, ?_⟩
        · rw [f1.dom, Tm.occ_iff]
          constructor
          · rintro (h | ⟨p, hp, h⟩)
            · exact .inl h
            · exact .inr (.inr ⟨p.1, (List.of_mem_zip hp).1, h⟩)
          · rintro (h | ⟨h, _⟩ | ⟨u, hu, h⟩)
            · exact .inl h
            · exact absurd h hk
            · obtain ⟨i, hi⟩ := List.getElem?_of_mem hu
              obtain ⟨v, hv⟩ := get_of_lt (l := b.args) (k := i) (by have := (List.getElem?_eq_some_iff.1 hi).1; omega)
              exact .inr ⟨(u, v), List.mem_of_getElem? (List.getElem?_zip_eq_some.2 ⟨hi, hv⟩), h⟩
        · rw [Tm.sub_eq, if_neg hk]
          rw [zip_map hc2.2 f2]
          cases a; cases b
          simp only at hc2 ⊢
          obtain ⟨⟨⟨rfl, rfl⟩, rfl⟩, _⟩ := hc2
          rfl
      · rw [if_neg hc] at h; cases h
theorem fits_spec : ∀ (d : Nat) (ps : List (Tm × Tm)) (l : List Bd), GG l → (∀ p ∈ ps, p.1.shp ∧ p.1.wf ∧ mayT p.2 = true ∧ p.2.wf ∧ Gr p.2) → (fitL d l ps).2 = 0 → FitOk l (fitL d l ps).1 (fun y => ∃ p ∈ ps, Tm.occ y p.1) ∧ ∀ p ∈ ps, p.1.sub (gB (fitL d l ps).1) = p.2
  | d, [], l, hl, _, _ => by
    rw [fitL]
    exact ⟨⟨hl, fun y hy => ⟨hy, rfl⟩, fun y => by simp⟩, fun p hp => by cases hp⟩
  | d, p :: ps, l, hl, hp, h => by
    rw [fitL] at h ⊢
    by_cases hc : (fitR d l p.1 p.2).2 = 0
    · rw [if_neg (by simp [hc])] at h ⊢
      obtain ⟨q1, q2, q3, q4, q5⟩ := hp p (by simp)
      obtain ⟨f1, f2⟩ := fit_spec d l p.1 p.2 hl q1 q2 q3 q4 q5 hc
      obtain ⟨g1, g2⟩ := fits_spec d ps _ f1.gg (fun q hq => hp q (by simp [hq])) h
      refine ⟨⟨g1.gg, fun y hy => ?_, fun y => ?_⟩, fun q hq => ?_⟩
      · obtain ⟨a1, a2⟩ := f1.old y hy
        obtain ⟨b1, b2⟩ := g1.old y a1
        exact ⟨b1, b2.trans a2⟩
      · rw [g1.dom, f1.dom]
        simp only [List.mem_cons, exists_eq_or_imp]
        exact or_assoc
      · rcases List.mem_cons.1 hq with rfl | hq
        · refine Eq.trans (sub_congr q.1 fun y hy => ?_) f2
          exact (g1.old y ((f1.dom y).2 (.inr hy))).2
        · exact g2 q hq
    · rw [if_pos hc] at h; exact absurd h hc
end
structure MI (m l : List Bd) (ps : List (Tm × Tm)) : Prop where
  gb : GB l
  le : ∀ y, hasB l y = true → hasB m y = true ∧ gB l y = gB m y
  ps : ∀ p ∈ ps, PK p ∧ Gr p.2 ∧ mayT p.2 = true ∧ p.1.sub (gB m) = p.2 ∧ ∀ y, p.1.occ y → hasB m y = true
theorem MI.gg {m l : List Bd} {ps : List (Tm × Tm)} (hm : GG m) (h : MI m l ps) : GG l := ⟨h.gb, fun b hb => by
  have hh := (hasB_iff l b.name).2 ⟨b, hb, rfl⟩
  obtain ⟨h1, h2⟩ := h.le _ hh
  rw [gB_mem h.gb.ris hb] at h2
  rw [h2]; exact (hm.get h1).1⟩
theorem MI.th {m l : List Bd} {ps : List (Tm × Tm)} (hm : GG m) (h : MI m l ps) (y : ByteArray) : (gB l y).sub (gB m) = gB m y := by
  cases hc : hasB l y with
  | true =>
    obtain ⟨h1, h2⟩ := h.le y hc
    rw [h2, (hm.get h1).1.sub (may_shp (hm.get h1).2)]
  | false => rw [gB_none h.gb.ris hc, varT_sub]
theorem MI.occ {m l : List Bd} {ps : List (Tm × Tm)} (hm : GG m) (h : MI m l ps) {p : Tm × Tm} (hp : p ∈ ps) {z : ByteArray} (hz : (p.1.sub (gB l)).occ z) : hasB m z = true ∧ hasB l z = false := by
  obtain ⟨h1, h2, h3, h4, h5⟩ := h.ps p hp
  refine ⟨?_, ap_occ h.gb h1.1.1 hz⟩
  obtain ⟨y, hy, hz⟩ := (occ_sub _ z p.1 h1.1.1).1 hz
  cases hc : hasB l y with
  | true => exact absurd hz (((h.gg hm).get hc).1 z)
  | false => rw [gB_none h.gb.ris hc, varT_occ] at hz; rw [← hz]; exact h5 y hy
theorem MI.room {m l : List Bd} {ps : List (Tm × Tm)} (hm : GG m) (h : MI m l ps) {x : ByteArray} (h1 : hasB m x = true) (h2 : hasB l x = false) : l.length < 16 := by
  have hn : (x :: l.map Bd.name).Nodup := List.nodup_cons.2 ⟨(fun hx => by
    obtain ⟨b, hb, e⟩ := List.mem_map.1 hx
    rw [(hasB_iff l x).2 ⟨b, hb, e⟩] at h2; cases h2), names_nodup h.gb.ris⟩
  have := hn.length_le_of_subset (l₂ := m.map Bd.name) fun s hs => by
    have hs2 : hasB m s = true := by
      rcases List.mem_cons.1 hs with rfl | hs
      · exact h1
      · obtain ⟨b, hb, rfl⟩ := List.mem_map.1 hs
        exact (h.le _ ((hasB_iff l b.name).2 ⟨b, hb, rfl⟩)).1
    obtain ⟨b, hb, e⟩ := (hasB_iff m s).1 hs2
    exact List.mem_map.2 ⟨b, hb, e⟩
  simp only [List.length_cons, List.length_map] at this
  have := hm.gb.len
  omega
theorem MI.not2 {m l : List Bd} {p : Tm × Tm} {ps : List (Tm × Tm)} (hm : GG m) (h : MI m l (p :: ps)) : (oneR l p).2.2 ≠ 2 := by
  obtain ⟨h1, h2, h3, h4, h5⟩ := h.ps p (by simp)
  have e1 := putT_sub h1.1.2.1 l
  have e2 : putT l p.2 = p.2 := by rw [putT_sub h1.2.2.1 l, h2.sub h1.2.1]
  have e3 : (p.1.sub (gB l)).sub (gB m) = p.2 := by rw [sub_sub, sub_congr p.1 fun y _ => h.th hm y]; exact h4
  have m1 : mayT (putT l p.1) = true := by
    rw [e1]
    exact may_of_sub (g := gB m) (ap_shp h.gb h1.1.1) (by rw [e3]; exact h3)
  have c1 : intoE l p.1 = 0 := by rw [intoE, if_pos m1]
  have c2 : intoE l p.2 = 0 := by rw [intoE, e2, if_pos h3]
  have hk : p.2.kind ≠ 1 := fun hk => h2 p.2.name ((Tm.occ_iff _ _).2 (.inl ⟨hk, rfl⟩))
  unfold oneR
  rw [if_neg (by simp [c1]), if_neg (by simp [c2]), e2]
  split
  · simp
  split
  · rename_i hc
    have ho : (putT l p.1).occ (putT l p.1).name := (Tm.occ_iff _ _).2 (.inl ⟨hc.1, rfl⟩)
    rw [e1] at ho
    obtain ⟨k1, k2⟩ := h.occ hm (by simp) ho
    have hr := h.room hm k1 k2
    simp only
    rw [standsE, e1]
    split
    · decide
    · rw [standE_ground (h.gg hm) hr]; decide
  try rw [if_neg hk]
  split <;> simp
theorem uni_match {m : List Bd} (hm : GG m) : ∀ (n : Nat) (l : List Bd) (ps : List (Tm × Tm)) (R : List Bd × Int), MI m l ps → uIter n l ps = some R → R.2 = 0 ∧ ∀ y, hasB R.1 y = true → hasB m y = true ∧ gB R.1 y = gB m y
  | n, l, [], R, h, e => by
    have : (l, 0) = R := by cases n <;> simpa [uIter] using e
    subst this
    exact ⟨rfl, h.le⟩
  | 0, l, p :: ps, x, _, e => by simp [uIter] at e
  | n + 1, l, p :: ps, R, h, e => by
    obtain ⟨h1, h2, h3, h4, h5⟩ := h.ps p (by simp)
    have e2 : p.2.sub (gB l) = p.2 := h2.sub h1.2.1 _
    have e3 : (p.1.sub (gB l)).sub (gB m) = p.2 := by rw [sub_sub, sub_congr p.1 fun y _ => h.th hm y]; exact h4
    have he : (oneR l p).2.2 = 0 := by
      rcases one_spec h.gb h1 with k | ⟨_, k⟩ | k
      · exact absurd k (h.not2 hm)
      · exact absurd (by rw [e2, e3, h2.sub h1.2.1]) (k (gB m))
      · obtain ⟨_, _, ⟨e1, _⟩ | ⟨z, u, _, _, e1, _⟩ | ⟨e1, _⟩⟩ := k <;> rw [e1]
    rw [uIter, if_neg (by simp [he])] at e
    obtain ⟨g1, g2, m1, m2, g3⟩ := one_keeps h.gb h1 he
    refine uni_match hm n _ _ R ⟨g1, ?_, ?_⟩ e
    · rcases g3 with ⟨e1, _⟩ | ⟨z, u, hab, hus, e1, _, _, hgb, hh⟩ | ⟨e1, _⟩
      · rw [e1]; exact h.le
      · intro y hy
        rw [hh, Bool.or_eq_true, decide_eq_true_eq] at hy
        rcases hab with ⟨ha, hb⟩ | ⟨hb, _⟩
        · have ho : (p.1.sub (gB l)).occ z := by rw [ha, varT_occ]
          obtain ⟨k1, k2⟩ := h.occ hm (by simp) ho
          rcases hy with hy | rfl
          · obtain ⟨j1, j2⟩ := h.le y hy
            have hg := (h.gg hm).get hy
            exact ⟨j1, by rw [hgb, hg.1.sub (may_shp hg.2), j2]⟩
          · refine ⟨k1, ?_⟩
            rw [hgb, gB_none h.gb.ris k2, varT_sub, gB_one, if_pos rfl, ← hb, e2]
            rw [ha, varT_sub] at e3
            exact e3.symm
        · exfalso
          rw [e2] at hb
          exact h2 z (by rw [hb, varT_occ])
      · rw [e1]; exact h.le
    · intro q hq
      rcases List.mem_append.1 hq with hq | hq
      · have hpk := g2 q hq
        rcases g3 with ⟨e1, _⟩ | ⟨z, u, hab, hus, e1, _⟩ | ⟨e1, ka, kb, _, _, _, hlen⟩
        · rw [e1] at hq; cases hq
        · rw [e1] at hq; cases hq
        · rw [e1] at hq
          rw [e2] at hq
          have hz := List.of_mem_zip hq
          refine ⟨hpk, h2.arg hz.2, may_arg h3 hz.2, ?_, fun y hy => (h.occ hm (by simp) ((Tm.occ_iff _ _).2 (.inr ⟨q.1, hz.1, hy⟩))).1⟩
          obtain ⟨i, hi⟩ := List.getElem?_of_mem hq
          rw [List.getElem?_zip_eq_some] at hi
          rw [Tm.sub_eq, if_neg ka] at e3
          have e4 : (p.1.sub (gB l)).args.map (Tm.sub (gB m)) = p.2.args := by rw [← e3]
          have := congrArg (fun l : List Tm => l[i]?) e4
          simp only [List.getElem?_map, hi.1, hi.2, Option.map_some, Option.some.injEq] at this
          exact this
      · exact h.ps q (by simp [hq])
theorem match_law {a b : Tm} (wa : a.wf) (wb : b.wf) {R : List Bd × Int} (hR : uniP [] a b R) (h : (matchR [] a b).2 = 0) : R.2 = 0 ∧ (matchR [] a b).1 = R.1 ∧ GB R.1 := by
  by_cases hc : matchC [] a b = true
  · rw [matchR, if_pos hc] at h ⊢
    simp only [matchC, Bool.and_eq_true] at hc
    obtain ⟨⟨⟨_, ma⟩, mb⟩, gb⟩ := hc
    have hg := (groundB_iff (may_dle mb)).1 gb
    obtain ⟨f1, f2⟩ := fit_spec 5 [] a b GG_nil (may_shp ma) wa mb wb hg h
    have ha := TK_may ma wa
    have hb := TK_may mb wb
    have p1 : ∀ p ∈ [(a, b)], PK p := fun p hp => by simp only [List.mem_cons, List.not_mem_nil, or_false] at hp; subst hp; exact ⟨ha, hb⟩
    rcases hR with ⟨_, _, _, n, hn⟩ | ⟨hno, _⟩
    · obtain ⟨r1, r2⟩ := uni_match f1.gg n [] [(a, b)] R ⟨GB_nil, (fun y hy => by cases hy), (fun p hp => by
        simp only [List.mem_cons, List.not_mem_nil, or_false] at hp; subst hp
        exact ⟨⟨ha, hb⟩, hg, mb, f2, fun y hy => (f1.dom y).2 (.inr hy)⟩)⟩ hn
      obtain ⟨x, e⟩ := R
      simp only at r1 r2 ⊢
      subst r1
      obtain ⟨x1, _, x3⟩ := uni_sound n [] _ x GB_nil p1 hn
      have ux := x3 (a, b) (by simp)
      simp only at ux
      rw [hg.sub (may_shp mb)] at ux
      have hdom : ∀ y, hasB (fitR 5 [] a b).1 y = true → hasB x y = true := fun y hy => by
        rcases (f1.dom y).1 hy with h0 | h0
        · cases h0
        · cases hx : hasB x y with
          | true => rfl
          | false =>
            exfalso
            refine hg y ?_
            rw [← ux, occ_sub _ _ _ (may_shp ma)]
            exact ⟨y, h0, by rw [gB_none x1.ris hx, varT_occ]⟩
      refine ⟨rfl, ris_ext f1.gg.gb.ris x1.ris fun c => ⟨fun hcm => ?_, fun hcx => ?_⟩, x1⟩
      · have hh := hdom c.name ((hasB_iff _ _).2 ⟨c, hcm, rfl⟩)
        obtain ⟨c2, hc2, e2⟩ := (hasB_iff _ _).1 hh
        have e3 := (r2 c.name hh).2
        rw [gB_mem f1.gg.gb.ris hcm, ← e2, gB_mem x1.ris hc2] at e3
        have : c2 = c := by cases c; cases c2; simp only at e2 e3; rw [e2, e3]
        rw [← this]; exact hc2
      · have hh := (hasB_iff _ _).2 ⟨c, hcx, rfl⟩
        obtain ⟨k1, k2⟩ := r2 c.name hh
        obtain ⟨c2, hc2, e2⟩ := (hasB_iff _ _).1 k1
        rw [gB_mem x1.ris hcx, ← e2, gB_mem f1.gg.gb.ris hc2] at k2
        have : c2 = c := by cases c; cases c2; simp only at e2 k2; rw [e2, k2]
        rw [← this]; exact hc2
    · exact absurd ⟨by kernel_rfl, ma, mb⟩ hno
  · rw [matchR, if_neg hc] at h; cases h
end Go.Proofs.Ytdecgkhdbfgldaa
