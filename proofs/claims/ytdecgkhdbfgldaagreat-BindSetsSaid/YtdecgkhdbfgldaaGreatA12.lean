/- Part 12 of the proof: Ha, Gk. -/
import Derived.Test.YtdecgkhdbfgldaaGreatA11
set_option linter.unusedVariables false
set_option linter.unusedSimpArgs false
set_option maxRecDepth 8000
namespace Go.Proofs.YtdecgkhdbfgldaaGreat
open Go
theorem spv_int {k : IntKind} {a : Int} {v : Value} (h : SpV (.int k a) v) : ∃ b, v = .int k b := by
  rcases h with rfl | ⟨_, _, _, h, rfl⟩ | ⟨_, _, h, _⟩ | ⟨_, _, _, h, _⟩
  · exact ⟨a, rfl⟩
  · cases h; exact ⟨_, rfl⟩
  · cases h
  · cases h
theorem spv_str {a : ByteArray} {v : Value} (h : SpV (.string a) v) : ∃ b, v = .string b := by
  rcases h with rfl | ⟨_, _, _, h, _⟩ | ⟨_, _, h, rfl⟩ | ⟨_, _, _, h, _⟩
  · exact ⟨a, rfl⟩
  · cases h
  · cases h; exact ⟨_, rfl⟩
  · cases h
def dlb : Nat → Tm → Prop
  | 0, _ => False
  | d + 1, t => t.args.length ≤ 140737488351232 ∧ ∀ u, u ∈ t.args → dlb d u
theorem dlb_of : ∀ (d : Nat) (t : Tm), dle d t → t.wf → dlb d t
  | 0, t, h, _ => h
  | d + 1, t, h, hw => ⟨by have := hw.2.2.2.1; omega, fun u hu => dlb_of d u (h u hu) (Tm.wfs_mem hw.2.2.2.2 hu)⟩
mutual
theorem shTm : ∀ (t : Tm) (ds' : List D), ShCs (tmD0 t) ds' → ∃ t', ds' = tmD t' ∧ ∀ d, dlb d t → dlb d t'
  | ⟨k, nm, n, xs⟩, ds', h => by
    simp only [tmD0, ShCs, ShD] at h
    obtain ⟨_, _, rfl, ⟨v1, rfl, h1⟩, _, _, rfl, ⟨v2, rfl, h2⟩, _, _, rfl, ⟨v3, rfl, h3⟩, _, _, rfl, ⟨es', rfl, h4⟩, rfl⟩ := h
    obtain ⟨k', rfl⟩ := spv_int h1
    obtain ⟨s', rfl⟩ := spv_str h2
    obtain ⟨n', rfl⟩ := spv_int h3
    rcases h4 with rfl | h4
    · refine ⟨⟨k', s', n', []⟩, rfl, fun d hd => ?_⟩
      cases d with
      | zero => exact hd
      | succ d => exact ⟨Nat.zero_le _, fun u hu => by cases hu⟩
    · obtain ⟨xs', rfl, hl', hd'⟩ := shTms xs es' h4
      refine ⟨⟨k', s', n', xs'⟩, rfl, fun d hd => ?_⟩
      cases d with
      | zero => exact hd
      | succ d => exact ⟨by rw [hl']; exact hd.1, hd' d hd.2⟩
theorem shTms : ∀ (xs : List Tm) (es' : List (List D)), ShEs (tmDs xs) es' → ∃ xs', es' = tmDs xs' ∧ xs'.length = xs.length ∧ ∀ d, (∀ u ∈ xs, dlb d u) → ∀ u ∈ xs', dlb d u
  | [], es', h => by simp only [tmDs, ShEs] at h; subst h; exact ⟨[], rfl, rfl, fun d _ u hu => by cases hu⟩
  | t :: ts, es', h => by
    simp only [tmDs, ShEs] at h
    obtain ⟨e', es'', rfl, h1, h2⟩ := h
    obtain ⟨t', rfl, h3⟩ := shTm t e' h1
    obtain ⟨ts', rfl, h4, h5⟩ := shTms ts es'' h2
    refine ⟨t' :: ts', by simp only [tmDs, tmD0_eq], by simp [h4], fun d hd u hu => ?_⟩
    rcases List.mem_cons.1 hu with rfl | hu
    · exact h3 d (hd t (by simp))
    · exact h5 d (fun u hu => hd u (by simp [hu])) u hu
end
theorem shTmD {t : Tm} {ds' : List D} (h : ShCs (tmD t) ds') : ∃ t', ds' = tmD t' ∧ ∀ d, dlb d t → dlb d t' := shTm t ds' (by rw [tmD0_eq]; exact h)
theorem shBds : ∀ (l : List Bd) (es' : List (List D)), ShEs (bdDs l) es' → ∃ l', es' = bdDs l' ∧ l'.length = l.length ∧ ∀ d, (∀ b ∈ l, dlb d b.t) → ∀ b ∈ l', dlb d b.t
  | [], es', h => by simp only [bdDs, List.map_nil, ShEs] at h; subst h; exact ⟨[], rfl, rfl, fun d _ u hu => by cases hu⟩
  | b :: l, es', h => by
    simp only [bdDs, List.map_cons, bdD, ShEs, ShCs, ShD] at h
    obtain ⟨e', es'', rfl, ⟨_, _, rfl, ⟨v, rfl, h0⟩, h1⟩, h2⟩ := h
    obtain ⟨s', rfl⟩ := spv_str h0
    obtain ⟨t', rfl, h3⟩ := shTmD h1
    obtain ⟨l', rfl, h4, h5⟩ := shBds l es'' h2
    refine ⟨⟨s', t'⟩ :: l', rfl, by simp [h4], fun d hd u hu => ?_⟩
    rcases List.mem_cons.1 hu with rfl | hu
    · exact h3 d (hd b (by simp))
    · exact h5 d (fun u hu => hd u (by simp [hu])) u hu
theorem sh_tmbox {t : Tm} {o' : Ob} (h : ShOb (.box (lift true (tmD t))) o') : ∃ t', o' = .box (lift true (tmD t')) ∧ t'.args.length = t.args.length ∧ ∀ d, dlb d t → dlb d t' := by
  simp only [ShOb, tmD, lift, List.map_cons, List.map_nil, D.av, ShL, ShV, if_true] at h
  obtain ⟨cs', rfl, _, _, rfl, rfl, _, _, rfl, rfl, _, _, rfl, rfl, _, _, rfl, ⟨es', rfl, h⟩, rfl⟩ := h
  obtain ⟨xs', rfl, h1, h2⟩ := shTms t.args es' h
  refine ⟨⟨t.kind, t.name, t.n, xs'⟩, rfl, h1, fun d hd => ?_⟩
  cases d with
  | zero => exact hd
  | succ d => exact ⟨by rw [h1]; exact hd.1, h2 d hd.2⟩
theorem shO_one {l : Nat} {o : Ob} {O' : List (Nat × Ob)} (h : ShO [(l, o)] O') : ∃ o', O' = [(l, o')] ∧ ShOb o o' := by
  simp only [ShO] at h
  obtain ⟨o', O'', rfl, h, rfl⟩ := h
  exact ⟨o', rfl, h⟩
theorem shL_false : ∀ (ds : List D) (cs' : List AV), ShL (lift false ds) cs' → cs' = lift false ds
  | [], cs', h => by simpa [lift, ShL] using h
  | d :: ds, cs', h => by
    simp only [lift, List.map_cons, ShL] at h
    obtain ⟨v', vs', rfl, h1, h2⟩ := h
    have ih := shL_false ds vs' h2
    have : v' = D.av false d := by
      cases d with
      | imm v => simpa [D.av, ShV] using h1
      | sl k es =>
        simp only [D.av, ShV] at h1
        obtain ⟨es', rfl, h1⟩ := h1
        have : es' = es := by simpa using h1
        rw [this]; rfl
    rw [this, ih]; rfl
theorem shO_box {l : Nat} {ds : List D} {O' : List (Nat × Ob)} (h : ShO [(l, .box (lift false ds))] O') : O' = [(l, .box (lift false ds))] := by
  obtain ⟨o', rfl, h2⟩ := shO_one h
  simp only [ShOb] at h2
  obtain ⟨cs', rfl, h3⟩ := h2
  rw [shL_false ds cs' h3]
theorem spoilTerm_ok : ∀ (d : Nat) (t : Tm), dlb d t → SPC Tryz.prog 97 (tmA true t)
  | 0, t, h => h.elim
  | d + 1, t, h => by
    have ih := fun u hu => spoilTerm_ok d u hu
    have hlt := h.1
    refine SPC_intro Tryz.func97 rfl Tryz.ntmps97 (Nat.le_of_ble_eq_true rfl) rfl fun c hL hQW hDD => ?_; refine awp_seq ?_; refine awp_region ?_; refine awps_stp1 rfl rfl (by decide) (stp_box 1 rfl rfl rfl) rfl ?_; refine awps_nil ?_; refine thenQ_nil ?_; refine awp_seq ?_; refine awp_region ?_; refine awps_stp0 rfl rfl (by decide) (stp_move (.inr rfl) rfl) ?_; refine awps_nil ?_
    refine thenQ_nil ?_; refine awp_block ?_; refine awp_whileE (α := Tm) (t.args.length) (fun k u => dlb (d + 1) u ∧ u.args.length = t.args.length ∧ k ≤ t.args.length) (fun k u => ⟨[(1, .ptr 1 0), (2, iv (k : Int))], [(1, .box (lift true (tmD u)))]⟩) (t) (⟨h, rfl, by omega⟩) ?_ (fun k u hk hp => ?_)
    · exact sub_re (SubT.cons (lk_eq rfl (by first | rfl | simp)) (SubT.cons (lk_eq rfl (by first | rfl | simp)) (SubT.nil))) (SubO.cons (ok_eq rfl (by rfl)) (SubO.nil)) rfl rfl (noL' (noL hL) _)
    have hlu := tmDs_length u.args
    refine awp_seq ?_; refine awp_seq ?_; refine awp_region ?_; refine awps_stp0 rfl rfl (by decide) (stp_move (.inl rfl) rfl) ?_
    first | refine awps_stp0 rfl rfl (by decide) (stp_fieldAddr rfl fo_api_Term_3 rfl) ?_ | refine awps_stp0 rfl rfl (by decide) (stp_fieldAddr_elp rfl fo_api_Term_3 rfl) ?_
    first | refine awps_stp0 rfl rfl (by decide) (stp_load rfl tf_S_api_Term rfl rfl rfl rfl rfl) ?_ | refine awps_stp0 rfl rfl (by decide) (stp_load_elp1 rfl tf_S_api_Term rfl) ?_ | refine awps_stp0 rfl rfl (by decide) (stp_load_elpn rfl tf_S_api_Term rfl rfl rfl) ?_
    first | refine awps_stp0 rfl rfl (by decide) (stp_len_dat rfl sl_S_api_Term rfl) ?_ | refine awps_stp0 rfl rfl (by decide) (stp_len_rowd rfl sl_S_api_Term rfl rfl) ?_ | refine awps_stp0 rfl rfl (by decide) (stp_len_nil rfl sl_S_api_Term rfl) ?_ | refine awps_stp0 rfl rfl (by decide) (stp_len_vw rfl sl_S_api_Term rfl) ?_
    refine awps_stp0 rfl rfl (by decide) (stp_binI rfl rfl rfl rfl) ?_; refine awps_nil ?_; refine thenQ_nil ?_; refine awp_cond rfl (fun c0 => ?_) (fun c0 => ?_)
    · try simp only [↓str_beq_t, ↓str_beq_f, decide_eq_true_eq, decide_eq_false_iff_not, Bool.not_eq_true', Bool.not_eq_false', Int.not_lt, Int.not_le, beq_iff_eq, beq_eq_false_iff_ne, bne_iff_ne, bne_eq_false_iff_eq, ne_eq] at c0
      obtain ⟨x, hx⟩ := get_of_lt (l := u.args) (k := k) (by omega)
      have hxd : dlb d x := hp.1.2 x (List.mem_of_getElem? hx)
      refine awp_skip ?_; refine thenQ_nil ?_; refine awp_seq ?_; refine awp_block ?_; refine awp_seq ?_; refine awp_region ?_
      first | refine awps_stp0 rfl rfl (by decide) (stp_fieldAddr rfl fo_api_Term_3 rfl) ?_ | refine awps_stp0 rfl rfl (by decide) (stp_fieldAddr_elp rfl fo_api_Term_3 rfl) ?_
      first | refine awps_stp0 rfl rfl (by decide) (stp_load rfl tf_S_api_Term rfl rfl rfl rfl rfl) ?_ | refine awps_stp0 rfl rfl (by decide) (stp_load_elp1 rfl tf_S_api_Term rfl) ?_ | refine awps_stp0 rfl rfl (by decide) (stp_load_elpn rfl tf_S_api_Term rfl rfl rfl) ?_
      refine awps_stp0 rfl rfl (by decide) (stp_move (.inl rfl) rfl) ?_
      first | refine awps_stp0 rfl rfl (by decide) (stp_indexAddr rfl sl_S_api_Term rfl rfl (by omega) (tmDs_get hx)) ?_ | refine awps_stp0 rfl rfl (by decide) (stp_indexAddr_rowd rfl sl_S_api_Term rfl rfl rfl (by omega) (tmDs_get hx)) ?_ | refine awps_stp0 rfl rfl (by decide) (stp_indexAddr_row rfl sl_S_api_Term rfl rfl rfl (by omega) (tmDs_get hx) (by decide)) ?_
      first | refine awps_stp0 rfl rfl (by decide) (stp_load_all rfl tf_api_Term rfl rfl rfl rfl) ?_ | refine awps_stp0 rfl rfl (by decide) (stp_load rfl tf_api_Term rfl rfl rfl rfl rfl) ?_ | refine awps_stp0 rfl rfl (by decide) (stp_load_elpa rfl tf_api_Term rfl rfl) ?_ | refine awps_stp0 rfl rfl (by decide) (stp_load_elpn rfl tf_api_Term rfl rfl rfl) ?_
      refine awps_sub (sub_re (T1 := [(14, tmA true x), (1, .ptr 1 0), (2, iv (k : Int))]) (O1 := [(1, .box (lift true (tmD u)))]) (SubT.cons rfl (SubT.cons rfl (SubT.cons rfl SubT.nil))) (SubO.cons rfl SubO.nil) rfl rfl (noL' (noL hL) _)) ?_; refine awps_spoil rfl rfl rfl (by decide) en_almagestlaw0_Term rfl rfl rfl rfl (ih x hxd) hQW (fun T' O' hT hO => ?_)
      simp only [ShT, ShV] at hT
      obtain ⟨_, _, rfl, _, _, _, rfl, rfl, _, _, rfl, rfl, rfl⟩ := hT
      obtain ⟨ob1, rfl, hO2⟩ := shO_one hO
      obtain ⟨u1, rfl, hu1, hud1⟩ := sh_tmbox hO2
      have hlu1 := tmDs_length u1.args
      obtain ⟨x1, hx1⟩ := get_of_lt (l := u1.args) (k := k) (by omega)
      refine awps_nil ?_; refine thenQ_nil ?_; refine awp_region ?_
      first | refine awps_stp0 rfl rfl (by decide) (stp_fieldAddr rfl fo_api_Term_3 rfl) ?_ | refine awps_stp0 rfl rfl (by decide) (stp_fieldAddr_elp rfl fo_api_Term_3 rfl) ?_
      first | refine awps_stp0 rfl rfl (by decide) (stp_load rfl tf_S_api_Term rfl rfl rfl rfl rfl) ?_ | refine awps_stp0 rfl rfl (by decide) (stp_load_elp1 rfl tf_S_api_Term rfl) ?_ | refine awps_stp0 rfl rfl (by decide) (stp_load_elpn rfl tf_S_api_Term rfl rfl rfl) ?_
      refine awps_stp0 rfl rfl (by decide) (stp_move (.inl rfl) rfl) ?_; refine awps_stp0 rfl rfl (by decide) (stp_build rfl zv_api_Term rfl pl_api_Term rfl rfl) ?_
      first | refine awps_stp0 rfl rfl (by decide) (stp_indexAddr rfl sl_S_api_Term rfl rfl (by omega) (tmDs_get hx1)) ?_ | refine awps_stp0 rfl rfl (by decide) (stp_indexAddr_rowd rfl sl_S_api_Term rfl rfl rfl (by omega) (tmDs_get hx1)) ?_ | refine awps_stp0 rfl rfl (by decide) (stp_indexAddr_row rfl sl_S_api_Term rfl rfl rfl (by omega) (tmDs_get hx1) (by decide)) ?_
      refine awps_sub (sub_re (T1 := [(20, .elp true (tmD x1)), (19, .agg [iv (-9), sv ⟨#[]⟩, iv 0, .imm (.slice none 0 0)]), (1, .ptr 1 0), (2, iv (k : Int))]) (O1 := [(1, .box (lift true (tmD u1)))]) (SubT.cons rfl (SubT.cons rfl (SubT.cons rfl (SubT.cons rfl SubT.nil)))) (SubO.cons rfl SubO.nil) rfl rfl (noL' (noL hL) _)) ?_
      refine awps_spoilstore rfl rfl rfl tf_api_Term rfl rfl rfl rfl (by decide) rfl hQW (fun T' O' hT hO => ?_)
      simp only [ShT, ShV] at hT
      obtain ⟨_, _, rfl, _, _, _, rfl, _, _, _, rfl, rfl, _, _, rfl, rfl, rfl⟩ := hT
      obtain ⟨ob1, rfl, hO2⟩ := shO_one hO
      obtain ⟨u2, rfl, hu2, hud2⟩ := sh_tmbox hO2
      refine awps_nil ?_; refine inQ_nil ?_; refine thenQ_nil ?_; refine awp_region ?_; refine awps_stp0 rfl rfl (by decide) (stp_move (.inl rfl) rfl) ?_; refine awps_stp0 rfl rfl (by decide) (stp_add rfl rfl rfl (by omega)) ?_; refine awps_stp0 rfl rfl (by decide) (stp_move (.inr rfl) rfl) ?_; refine awps_nil ?_; refine thenQ_nil ?_; refine ⟨?_, u2, ?_, ?_⟩
      · skip
        omega
      · skip
        exact ⟨hud2 _ (hud1 _ hp.1), by omega, by omega⟩
      exact sub_re (SubT.cons (lk_eq rfl (by first | rfl | simp)) (SubT.cons (lk_eq rfl (by first | rfl | simp)) (SubT.nil))) (SubO.cons (ok_eq rfl (by rfl)) (SubO.nil)) rfl rfl (noL' (noL hL) _)
    try simp only [↓str_beq_t, ↓str_beq_f, decide_eq_true_eq, decide_eq_false_iff_not, Bool.not_eq_true', Bool.not_eq_false', Int.not_lt, Int.not_le, beq_iff_eq, beq_eq_false_iff_ne, bne_iff_ne, bne_eq_false_iff_eq, ne_eq] at c0
    refine awp_exit ?_; refine thenQ_exit (thenQ_exit (inQ_hit ?_))
    -- leaf 0F
    refine ret0 (noL hL) (.inr rfl) (resAs_nil) ?_ ?_
    · rfl
    exact ⟨rfl, rfl⟩
theorem spoilBinds_ok (l : List Bd) (hd : ∀ b ∈ l, dlb 5 b.t) (hl : l.length ≤ 1000000) : SPC Tryz.prog 29 (.dat true 5 (bdDs l)) := by
  refine SPC_intro Tryz.func29 rfl Tryz.ntmps29 (Nat.le_of_ble_eq_true rfl) rfl fun c hL hQW hDD => ?_; refine awp_seq ?_; refine awp_region ?_; refine awps_stp0 rfl rfl (by decide) (stp_move (.inr rfl) rfl) ?_; refine awps_nil ?_; refine thenQ_nil ?_; refine awp_block ?_
  refine awp_whileE (α := List Bd) (l.length) (fun k u => (∀ b ∈ u, dlb 5 b.t) ∧ u.length = l.length ∧ k ≤ l.length) (fun k u => ⟨[(0, .dat true 5 (bdDs u)), (2, iv (k : Int))], []⟩) (l) (⟨hd, rfl, by omega⟩) ?_ (fun k u hk hp => ?_)
  · exact sub_re (SubT.cons (lk_eq rfl (by first | rfl | simp)) (SubT.cons (lk_eq rfl (by first | rfl | simp)) (SubT.nil))) (SubO.nil) rfl rfl (noL' (noL hL) _)
  have hlu := bdDs_length u
  refine awp_seq ?_; refine awp_seq ?_; refine awp_region ?_; refine awps_stp0 rfl rfl (by decide) (stp_move (.inl rfl) rfl) ?_; refine awps_stp0 rfl rfl (by decide) (stp_move (.inl rfl) rfl) ?_
  first | refine awps_stp0 rfl rfl (by decide) (stp_len_dat rfl sl_S_api_Bind rfl) ?_ | refine awps_stp0 rfl rfl (by decide) (stp_len_rowd rfl sl_S_api_Bind rfl rfl) ?_ | refine awps_stp0 rfl rfl (by decide) (stp_len_nil rfl sl_S_api_Bind rfl) ?_ | refine awps_stp0 rfl rfl (by decide) (stp_len_vw rfl sl_S_api_Bind rfl) ?_
  refine awps_stp0 rfl rfl (by decide) (stp_binI rfl rfl rfl rfl) ?_; refine awps_nil ?_; refine thenQ_nil ?_; refine awp_cond rfl (fun c0 => ?_) (fun c0 => ?_)
  · try simp only [↓str_beq_t, ↓str_beq_f, decide_eq_true_eq, decide_eq_false_iff_not, Bool.not_eq_true', Bool.not_eq_false', Int.not_lt, Int.not_le, beq_iff_eq, beq_eq_false_iff_ne, bne_iff_ne, bne_eq_false_iff_eq, ne_eq] at c0
    obtain ⟨x, hx⟩ := get_of_lt (l := u) (k := k) (by omega)
    have hxd : dlb 5 x.t := hp.1 x (List.mem_of_getElem? hx)
    refine awp_skip ?_; refine thenQ_nil ?_; refine awp_seq ?_; refine awp_block ?_; refine awp_seq ?_; refine awp_region ?_; refine awps_stp0 rfl rfl (by decide) (stp_move (.inl rfl) rfl) ?_; refine awps_stp0 rfl rfl (by decide) (stp_move (.inl rfl) rfl) ?_
    first | refine awps_stp0 rfl rfl (by decide) (stp_indexAddr rfl sl_S_api_Bind rfl rfl (by omega) (bdDs_get hx)) ?_ | refine awps_stp0 rfl rfl (by decide) (stp_indexAddr_rowd rfl sl_S_api_Bind rfl rfl rfl (by omega) (bdDs_get hx)) ?_ | refine awps_stp0 rfl rfl (by decide) (stp_indexAddr_row rfl sl_S_api_Bind rfl rfl rfl (by omega) (bdDs_get hx) (by decide)) ?_
    first | refine awps_stp0 rfl rfl (by decide) (stp_fieldAddr rfl fo_api_Bind_1 rfl) ?_ | refine awps_stp0 rfl rfl (by decide) (stp_fieldAddr_elp rfl fo_api_Bind_1 rfl) ?_
    first | refine awps_stp0 rfl rfl (by decide) (stp_load_all rfl tf_api_Term rfl rfl rfl rfl) ?_ | refine awps_stp0 rfl rfl (by decide) (stp_load rfl tf_api_Term rfl rfl rfl rfl rfl) ?_ | refine awps_stp0 rfl rfl (by decide) (stp_load_elpa rfl tf_api_Term rfl rfl) ?_ | refine awps_stp0 rfl rfl (by decide) (stp_load_elpn rfl tf_api_Term rfl rfl rfl) ?_
    refine awps_sub (sub_re (T1 := [(13, tmA true x.t), (0, .dat true 5 (bdDs u)), (2, iv (k : Int))]) (O1 := []) (SubT.cons rfl (SubT.cons rfl (SubT.cons rfl SubT.nil))) SubO.nil rfl rfl (noL' (noL hL) _)) ?_; refine awps_spoil rfl rfl rfl (by decide) en_almagestlaw0_Term rfl rfl rfl rfl (spoilTerm_ok 5 x.t hxd) hQW (fun T' O' hT hO => ?_)
    simp only [ShT, ShV, if_true] at hT
    obtain ⟨_, _, rfl, _, _, _, rfl, ⟨es, rfl, hes⟩, _, _, rfl, rfl, rfl⟩ := hT
    simp only [ShO] at hO
    subst hO
    obtain ⟨u1, rfl, hu1, hud1⟩ := shBds u es hes
    have hlu1 := bdDs_length u1
    obtain ⟨x1, hx1⟩ := get_of_lt (l := u1) (k := k) (by omega)
    refine awps_nil ?_; refine thenQ_nil ?_; refine awp_region ?_; refine awps_stp0 rfl rfl (by decide) (stp_move (.inl rfl) rfl) ?_; refine awps_stp0 rfl rfl (by decide) (stp_move (.inl rfl) rfl) ?_; refine awps_stp0 rfl rfl (by decide) (stp_build rfl zv_api_Bind rfl pl_api_Bind rfl rfl) ?_
    first | refine awps_stp0 rfl rfl (by decide) (stp_indexAddr rfl sl_S_api_Bind rfl rfl (by omega) (bdDs_get hx1)) ?_ | refine awps_stp0 rfl rfl (by decide) (stp_indexAddr_rowd rfl sl_S_api_Bind rfl rfl rfl (by omega) (bdDs_get hx1)) ?_ | refine awps_stp0 rfl rfl (by decide) (stp_indexAddr_row rfl sl_S_api_Bind rfl rfl rfl (by omega) (bdDs_get hx1) (by decide)) ?_
    refine awps_sub (sub_re (T1 := [(18, .elp true (bdD x1)), (17, .agg [sv ⟨#[115, 112, 111, 105, 108, 116]⟩, iv 0, sv ⟨#[]⟩, iv 0, .imm (.slice none 0 0)]), (0, .dat true 5 (bdDs u1)), (2, iv (k : Int))]) (O1 := []) (SubT.cons rfl (SubT.cons rfl (SubT.cons rfl (SubT.cons rfl SubT.nil)))) SubO.nil rfl rfl (noL' (noL hL) _)) ?_
    refine awps_spoilstore rfl rfl rfl tf_api_Bind rfl rfl rfl rfl (by decide) rfl hQW (fun T' O' hT hO => ?_)
    simp only [ShT, ShV, if_true] at hT
    obtain ⟨_, _, rfl, _, _, _, rfl, _, _, _, rfl, ⟨es2, rfl, hes2⟩, _, _, rfl, rfl, rfl⟩ := hT
    simp only [ShO] at hO
    subst hO
    obtain ⟨u2, rfl, hu2, hud2⟩ := shBds u1 es2 hes2
    refine awps_nil ?_; refine inQ_nil ?_; refine thenQ_nil ?_; refine awp_region ?_; refine awps_stp0 rfl rfl (by decide) (stp_move (.inl rfl) rfl) ?_; refine awps_stp0 rfl rfl (by decide) (stp_add rfl rfl rfl (by omega)) ?_; refine awps_stp0 rfl rfl (by decide) (stp_move (.inr rfl) rfl) ?_; refine awps_nil ?_; refine thenQ_nil ?_; refine ⟨?_, u2, ?_, ?_⟩
    · skip
      omega
    · skip
      exact ⟨hud2 _ (hud1 _ hp.1), by omega, by omega⟩
    exact sub_re (SubT.cons (lk_eq rfl (by first | rfl | simp)) (SubT.cons (lk_eq rfl (by first | rfl | simp)) (SubT.nil))) (SubO.nil) rfl rfl (noL' (noL hL) _)
  try simp only [↓str_beq_t, ↓str_beq_f, decide_eq_true_eq, decide_eq_false_iff_not, Bool.not_eq_true', Bool.not_eq_false', Int.not_lt, Int.not_le, beq_iff_eq, beq_eq_false_iff_ne, bne_iff_ne, bne_eq_false_iff_eq, ne_eq] at c0
  refine awp_exit ?_; refine thenQ_exit (thenQ_exit (inQ_hit ?_))
  -- leaf 0F
  refine ret0 (noL hL) (.inr rfl) (resAs_nil) ?_ ?_
  · rfl
  exact ⟨rfl, rfl⟩
end Go.Proofs.YtdecgkhdbfgldaaGreat

set_option linter.unusedVariables false
set_option linter.unusedSimpArgs false
set_option maxRecDepth 8000
namespace Go.Proofs.YtdecgkhdbfgldaaGreat
open Go
def w2L : List Bd := [⟨sX, numT 5⟩]
theorem wakes2_ok : PF 32 [] (bv true) := by
  have k1 : PF 24 [.imm (.slice none 0 0), sv sX, .agg [iv 2, sv ⟨#[]⟩, iv 5, .imm (.slice none 0 0)]] (.tup [.dat true 5 (bdDs w2L), iv 0]) := by
    have h := AC_le (.cons .nil (.cons .refl (.cons (num_le false 5) .nil))) (Set_ok [] nil_bwf sX (by decide) (numT 5) (numT_w 5 (by decide)))
    rw [show setL [] sX (numT 5) = w2L by kernel_rfl, show setE [] sX (numT 5) = 0 by kernel_rfl] at h
    exact h
  have k2 : PF 30 [bdA w2L, .agg [iv 1, sv sX, iv 0, .imm (.slice none 0 0)]] (.tup [.agg (lift true (tmD (numT 5))), iv 0]) := by
    have h := AC_le (.cons .refl (.cons (var_le false sX) .nil)) (Apply_ok w2L (fun b hb => by simp only [w2L, List.mem_cons, List.not_mem_nil, or_false] at hb; subst hb; exact ⟨by decide, numT_w 5 (by decide)⟩) (varT sX) oX)
    rw [show applyT w2L (varT sX) = numT 5 by kernel_rfl, show applyE w2L (varT sX) = 0 by kernel_rfl] at h
    exact h
  refine AC_intro Tryz.func32 rfl Tryz.ntmps32 (Nat.le_of_ble_eq_true rfl) fun c hL hQ hDD => ?_; refine awp_seq ?_; refine awp_region ?_; refine awps_stp0 rfl rfl (by decide) (stp_move (.inr rfl) rfl) ?_; refine awps_nil ?_; refine thenQ_nil ?_; refine awp_seq ?_; refine awp_region ?_; refine awps_stp0 rfl rfl (by decide) (stp_build rfl zv_api_Term rfl pl_api_Term rfl rfl) ?_
  refine awps_call (avs := [_, _, _]) true rfl rfl rfl (by decide) en_bind_Set rfl rfl (k1) rfl rfl ?_; refine awps_stp0 rfl rfl (by decide) (stp_move (.inl rfl) rfl) ?_; refine awps_stp0 rfl rfl (by decide) (stp_extract rfl rfl rfl) ?_; refine awps_stp0 rfl rfl (by decide) (stp_extract rfl rfl rfl) ?_; refine awps_stp0 rfl rfl (by decide) (stp_move (.inr rfl) rfl) ?_
  refine awps_stp0 rfl rfl (by decide) (stp_move (.inr rfl) rfl) ?_; refine awps_nil ?_; refine thenQ_nil ?_; refine awp_seq ?_; refine awp_sub (sub_untag hQ) ?_; refine awp_region ?_; refine awps_stp0 rfl rfl (by decide) (stp_move (.inl rfl) rfl) ?_; refine awps_stp0 rfl rfl (by decide) (stp_build rfl zv_api_Term rfl pl_api_Term rfl rfl) ?_
  refine awps_call (avs := [_, _]) true rfl rfl rfl (by decide) en_bind_Apply rfl rfl (k2) rfl rfl ?_; refine awps_stp0 rfl rfl (by decide) (stp_move (.inl rfl) rfl) ?_; refine awps_stp0 rfl rfl (by decide) (stp_extract rfl rfl rfl) ?_; refine awps_stp0 rfl rfl (by decide) (stp_extract rfl rfl rfl) ?_; refine awps_stp1 rfl rfl (by decide) (stp_alloc 3 rfl zv_api_Term rfl) rfl ?_
  refine awps_store rfl rfl rfl tf_api_Term rfl rfl rfl rfl rfl rfl rfl rfl rfl ?_; refine awps_stp0 rfl rfl (by decide) (stp_move (.inr rfl) rfl) ?_; refine awps_nil ?_; refine thenQ_nil ?_; refine awp_seq ?_; refine awp_region ?_; refine awps_stp0 rfl rfl (by decide) (stp_move (.inl rfl) rfl) ?_
  refine awps_call (avs := [_]) true rfl rfl rfl (by decide) en_almagestlaw2_num rfl rfl (num2_ok _) rfl rfl ?_; refine awps_stp0 rfl rfl (by decide) (stp_binI rfl rfl rfl rfl) ?_; refine awps_stp0 rfl rfl (by decide) (stp_move (.inl rfl) rfl) ?_; refine awps_split 19 rfl (fun g19 => ?_) (fun g19 => ?_)
  · try simp only [↓str_beq_t, ↓str_beq_f, decide_eq_true_eq, decide_eq_false_iff_not, Bool.not_eq_true', Bool.not_eq_false', Int.not_lt, Int.not_le, beq_iff_eq, beq_eq_false_iff_ne, bne_iff_ne, bne_eq_false_iff_eq, ne_eq] at g19
    refine awps_g0 rfl rfl rfl (by decide) rfl (by decide) (stp_move (.inl rfl) rfl) ?_; refine awps_g0 rfl rfl rfl (by decide) rfl (by decide) (stp_call (avs := [_]) true rfl en_almagestlaw2_num rfl rfl (num2_ok _) (fun _ => rfl) rfl) ?_; refine awps_g0 rfl rfl rfl (by decide) rfl (by decide) (stp_binI rfl rfl rfl rfl) ?_; refine awps_stp0 rfl rfl (by decide) (stp_pick rfl rfl rfl) ?_
    refine awps_stp0 rfl rfl (by decide) (stp_move (.inl rfl) rfl) ?_; refine awps_split 24 rfl (fun g24 => ?_) (fun g24 => ?_)
    · try simp only [↓str_beq_t, ↓str_beq_f, decide_eq_true_eq, decide_eq_false_iff_not, Bool.not_eq_true', Bool.not_eq_false', Int.not_lt, Int.not_le, beq_iff_eq, beq_eq_false_iff_ne, bne_iff_ne, bne_eq_false_iff_eq, ne_eq] at g24
      first | refine awps_g0 rfl rfl rfl (by decide) rfl (by decide) (stp_fieldAddr rfl fo_api_Term_2 rfl) ?_ | refine awps_g0 rfl rfl rfl (by decide) rfl (by decide) (stp_fieldAddr_elp rfl fo_api_Term_2 rfl) ?_
      first | refine awps_g0 rfl rfl rfl (by decide) rfl (by decide) (stp_load rfl tf_int rfl rfl rfl rfl rfl) ?_ | refine awps_g0 rfl rfl rfl (by decide) rfl (by decide) (stp_load_elp1 rfl tf_int rfl) ?_ | refine awps_g0 rfl rfl rfl (by decide) rfl (by decide) (stp_load_elpn rfl tf_int rfl rfl rfl) ?_
      refine awps_g0 rfl rfl rfl (by decide) rfl (by decide) (stp_binI rfl rfl rfl rfl) ?_; refine awps_stp0 rfl rfl (by decide) (stp_pick rfl rfl rfl) ?_; refine awps_stp0 rfl rfl (by decide) (stp_move (.inr rfl) rfl) ?_; refine awps_nil ?_; refine thenQ_nil ?_; refine awp_ret ?_
      -- leaf g19Tg24T
      refine ret0 (noL hL) (.inl rfl) (resAs_tmp rfl (resAs_nil)) ?_ ?_
      · rfl
      first
      | exact absurd trivial g19
      | exact absurd trivial g24
      | exact ⟨rfl, rfl⟩
    try simp only [↓str_beq_t, ↓str_beq_f, decide_eq_true_eq, decide_eq_false_iff_not, Bool.not_eq_true', Bool.not_eq_false', Int.not_lt, Int.not_le, beq_iff_eq, beq_eq_false_iff_ne, bne_iff_ne, bne_eq_false_iff_eq, ne_eq] at g24
    refine awps_gs rfl rfl rfl rfl (by decide) rfl (by decide) ?_; refine awps_gs rfl rfl rfl rfl (by decide) rfl (by decide) ?_; refine awps_gs rfl rfl rfl rfl (by decide) rfl (by decide) ?_; refine awps_stp0 rfl rfl (by decide) (stp_pick rfl rfl rfl) ?_; refine awps_stp0 rfl rfl (by decide) (stp_move (.inr rfl) rfl) ?_; refine awps_nil ?_; refine thenQ_nil ?_; refine awp_ret ?_
    -- leaf g19Tg24F
    refine ret0 (noL hL) (.inl rfl) (resAs_tmp rfl (resAs_nil)) ?_ ?_
    · rfl
    first
    | exact absurd trivial g19
    | exact absurd trivial g24
    | exact ⟨rfl, rfl⟩
  try simp only [↓str_beq_t, ↓str_beq_f, decide_eq_true_eq, decide_eq_false_iff_not, Bool.not_eq_true', Bool.not_eq_false', Int.not_lt, Int.not_le, beq_iff_eq, beq_eq_false_iff_ne, bne_iff_ne, bne_eq_false_iff_eq, ne_eq] at g19
  refine awps_gs rfl rfl rfl rfl (by decide) rfl (by decide) ?_; refine awps_gs rfl rfl rfl rfl (by decide) rfl (by decide) ?_; refine awps_gs rfl rfl rfl rfl (by decide) rfl (by decide) ?_; refine awps_stp0 rfl rfl (by decide) (stp_pick rfl rfl rfl) ?_; refine awps_stp0 rfl rfl (by decide) (stp_move (.inl rfl) rfl) ?_; refine awps_gs rfl rfl rfl rfl (by decide) rfl (by decide) ?_
  refine awps_gs rfl rfl rfl rfl (by decide) rfl (by decide) ?_; refine awps_gs rfl rfl rfl rfl (by decide) rfl (by decide) ?_; refine awps_stp0 rfl rfl (by decide) (stp_pick rfl rfl rfl) ?_; refine awps_stp0 rfl rfl (by decide) (stp_move (.inr rfl) rfl) ?_; refine awps_nil ?_; refine thenQ_nil ?_; refine awp_ret ?_
  -- leaf g19F
  refine ret0 (noL hL) (.inl rfl) (resAs_tmp rfl (resAs_nil)) ?_ ?_
  · rfl
  first
  | exact absurd trivial g19
  | exact absurd trivial g24
  | exact ⟨rfl, rfl⟩
end Go.Proofs.YtdecgkhdbfgldaaGreat
