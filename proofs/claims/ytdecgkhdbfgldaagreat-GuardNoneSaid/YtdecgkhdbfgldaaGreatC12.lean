/- Part 12 of the proof: Ib, Ic, Id, Ie, Fk, If. -/
import Derived.Test.YtdecgkhdbfgldaaGreatC11
set_option linter.unusedVariables false
set_option linter.unusedSimpArgs false
set_option maxRecDepth 8000
namespace Go.Proofs.YtdecgkhdbfgldaaGreat
open Go
theorem bdlDs_snoc (l : List (List Bd)) (b : List Bd) : bdlDs (l ++ [b]) = bdlDs l ++ [[.sl 5 (bdDs b)]] := by simp [bdlDs]
theorem bdlDs_app (l m : List (List Bd)) : bdlDs (l ++ m) = bdlDs l ++ bdlDs m := by simp [bdlDs]
theorem bdlDs_k (l : List (List Bd)) : ∀ d ∈ bdlDs l, d.length = 1 := fun d hd => by obtain ⟨x, _, rfl⟩ := List.mem_map.1 hd; rfl
def fitsB (a t : Tm) : Bool := decide ((fitR 5 [] a t).2 = 0)
def ansL (k : List Tm) (a : Tm) : List (List Bd) := (k.filter (fitsB a)).map fun t => (fitR 5 [] a t).1
theorem ansL_len (k : List Tm) (a : Tm) : (ansL k a).length ≤ k.length := by
  rw [ansL, List.length_map]; exact List.length_filter_le _ _
theorem ansL_bok {k : List Tm} (hk : ∀ t ∈ k, t.wf ∧ mayT t = true) {a : Tm} (ha : a.wf) : ∀ y ∈ ansL k a, BOk y := fun y hy => by
  obtain ⟨t, ht, rfl⟩ := List.mem_map.1 hy
  have hm := hk t (List.mem_filter.1 ht).1
  exact fitR_bok 5 [] a t nil_bok ha hm.1 hm.2
theorem Answers_ok (k : List Tm) (hl : k.length ≤ 60) (hk : ∀ t ∈ k, t.wf ∧ mayT t = true) (a : Tm) (ha : a.wf) (hm : mayT a = true) : PF 139 [.dat false 4 (tmDs k), tmA false a] (.dat false 1 (bdlDs (ansL k a))) := by
  have hlen := tmDs_length k
  refine AC_intro Tryz.func139 rfl Tryz.ntmps139 (Nat.le_of_ble_eq_true rfl) fun c hL hQ hDD => ?_; refine awp_seq ?_; refine awp_region ?_; refine awps_stp1 rfl rfl (by decide) (stp_box 3 rfl rfl rfl) rfl ?_; refine awps_stp0 rfl rfl (by decide) (stp_move (.inr rfl) rfl) ?_; refine awps_nil ?_; refine thenQ_nil ?_; refine awp_seq ?_; refine awp_seq ?_; refine awp_region ?_; refine awps_stp0 rfl rfl (by decide) (stp_move (.inl rfl) rfl) ?_; refine awps_stp0 rfl rfl (by decide) (stp_len_dat rfl sl_S_api_Term rfl) ?_
  refine awps_stp0 rfl rfl (by decide) (stp_move (.inl rfl) rfl) ?_; refine awps_nil ?_; refine thenQ_nil ?_; refine awp_block ?_; refine awp_while (k.length) (fun i => i ≤ k.length) (fun i => ⟨[(3, .ptr 3 0), (4, .row 4), (9, .dat false 4 (tmDs k)), (10, iv (tmDs k).length), (11, iv (i : Int))], [(3, .box (lift false (tmD a))), (4, .rowd 28 1 false (bdlDs (ansL (k.take i) a)))]⟩) (by omega) ?_ (fun i hi hpi => ?_)
  · exact Sub.trans (sub_nil_row (t := 4) (l := 4) 28 1 false rfl rfl) (sub_re (SubT.cons (lk_eq rfl (by first | rfl | simp)) (SubT.cons (lk_eq rfl (by first | rfl | simp)) (SubT.cons (lk_eq rfl (by first | rfl | simp)) (SubT.cons (lk_eq rfl (by first | rfl | simp)) (SubT.cons (lk_eq rfl (by first | rfl | simp)) (SubT.nil)))))) (SubO.cons (ok_eq rfl (by rfl)) (SubO.cons (ok_eq rfl (by rfl)) (SubO.nil))) rfl rfl (noL' (noL hL) _))
  have hl2 : (bdlDs (ansL (k.take i) a)).length ≤ k.length := by rw [bdlDs_length]; have := ansL_len (k.take i) a; simp at this; omega
  refine awp_seq ?_; refine awp_region ?_; refine awps_stp0 rfl rfl (by decide) (stp_binI rfl rfl rfl rfl) ?_; refine awps_nil ?_; refine thenQ_nil ?_; refine awp_seq ?_; refine awp_cond rfl (fun c0 => ?_) (fun c0 => ?_)
  · try simp only [↓cqA, cqB] at c0
    obtain ⟨u, hu⟩ := get_of_lt (l := k) (k := i) (by omega)
    have hum := hk u (List.mem_of_getElem? hu)
    have hfs := filter_snoc (fitsB a) hu
    have hbo := fitR_bok 5 [] a u nil_bok ha hum.1 hum.2
    refine awp_skip ?_; refine thenQ_nil ?_; refine awp_seq ?_; refine awp_block ?_; refine awp_seq ?_; refine awp_region ?_; refine awps_stp0 rfl rfl (by decide) (stp_indexAddr rfl sl_S_api_Term rfl rfl (by omega) (tmDs_get hu)) ?_; refine awps_stp0 rfl rfl (by decide) (stp_load_elpa rfl tf_api_Term rfl rfl) ?_; refine awps_stp1 rfl rfl (by decide) (stp_alloc 6 rfl zv_api_Term rfl) rfl ?_; refine awps_store rfl rfl rfl tf_api_Term rfl rfl rfl rfl rfl rfl rfl rfl rfl ?_; refine awps_nil ?_; refine thenQ_nil ?_; refine awp_seq ?_; refine awp_region ?_
    refine awps_stp0 rfl rfl (by decide) (stp_load_all rfl tf_api_Term rfl rfl rfl rfl) ?_; refine awps_stp0 rfl rfl (by decide) (stp_load_all rfl tf_api_Term rfl rfl rfl rfl) ?_; refine awps_call (avs := [_, _, _]) false rfl rfl rfl (by decide) en_unify_Fit rfl rfl (AC_le (.cons .nil (.cons .refl (.cons .refl .nil))) (Fit_ok 5 [] a u (may_dle hm) (may_shp hm) ha nil_bok hum.1 hum.2)) rfl rfl ?_; refine awps_stp0 rfl rfl (by decide) (stp_move (.inl rfl) rfl) ?_; refine awps_stp0 rfl rfl (by decide) (stp_extract rfl rfl rfl) ?_
    refine awps_stp0 rfl rfl (by decide) (stp_extract rfl rfl rfl) ?_; refine awps_stp0 rfl rfl (by decide) (stp_move (.inr rfl) rfl) ?_; refine awps_stp0 rfl rfl (by decide) (stp_move (.inr rfl) rfl) ?_; refine awps_nil ?_; refine thenQ_nil ?_; refine awp_seq ?_; refine awp_region ?_; refine awps_stp0 rfl rfl (by decide) (stp_move (.inl rfl) rfl) ?_; refine awps_stp0 rfl rfl (by decide) (stp_binI rfl rfl rfl rfl) ?_; refine awps_nil ?_; refine thenQ_nil ?_; refine awp_cond rfl (fun c1 => ?_) (fun c1 => ?_)
    · try simp only [↓cqA, cqB] at c1
      have hfe : bdlDs (ansL (k.take (i + 1)) a) = bdlDs (ansL (k.take i) a) ++ [[.sl 5 (bdDs (fitR 5 [] a u).1)]] := by
        rw [ansL, hfs, if_pos (by simp [fitsB, c1]), List.map_append, ← bdlDs_snoc]; rfl
      refine awp_region ?_; refine awps_stp0 rfl rfl (by decide) (stp_move (.inl rfl) rfl) ?_; refine awps_stp0 rfl rfl (by decide) (stp_move (.inl rfl) rfl) ?_; refine awps_call (avs := [_]) false rfl rfl rfl (by decide) en_bind_Own rfl rfl (bindOwnF_ok (fitR 5 [] a u).1 hbo) rfl rfl ?_; refine awps_stp1 rfl rfl (by decide) (stp_buildSlice 26 rfl sl_S_S_api_Bind zv_S_api_Bind rfl rfl (by decide) (by decide) (by decide) rfl rfl rfl) rfl ?_; refine awps_u rfl rfl (by decide) (stpU_append1 27 ta_S_S_api_Bind rfl rfl rfl rfl rfl rfl rfl rfl (noL hL _) (by omega) rfl) rfl ?_
      refine awps_sub (sub_rename 27 4 (noL hL _) (noL hL _)) ?_; refine awps_stp0 rfl rfl (by decide) (stp_move (.inr rfl) rfl) ?_; refine awps_nil ?_; refine inQ_nil ?_; refine thenQ_nil ?_; refine awp_region ?_; refine awps_stp0 rfl rfl (by decide) (stp_add rfl rfl rfl (by omega)) ?_; refine awps_stp0 rfl rfl (by decide) (stp_move (.inl rfl) rfl) ?_; refine awps_nil ?_; refine thenQ_nil ?_; refine ⟨?_, ?_, ?_⟩
      · skip
        omega
      · skip
        omega
      exact sub_re (SubT.cons (lk_eq rfl (by first | rfl | simp)) (SubT.cons (lk_eq rfl (by first | rfl | simp)) (SubT.cons (lk_eq rfl (by first | rfl | simp)) (SubT.cons (lk_eq rfl (by first | rfl | simp)) (SubT.cons (lk_eq rfl (by first | rfl | simp)) (SubT.nil)))))) (SubO.cons (ok_eq rfl (by rfl)) (SubO.cons (ok_eq rfl (by rw [hfe]; try rfl)) (SubO.nil))) rfl rfl (noL' (noL hL) _)
    try simp only [↓cqA, cqB] at c1
    have hfe : bdlDs (ansL (k.take (i + 1)) a) = bdlDs (ansL (k.take i) a) := by
      rw [ansL, hfs, if_neg (by simp [fitsB, c1]), List.append_nil]; rfl
    refine awp_skip ?_; refine inQ_nil ?_; refine thenQ_nil ?_; refine awp_region ?_; refine awps_stp0 rfl rfl (by decide) (stp_add rfl rfl rfl (by omega)) ?_; refine awps_stp0 rfl rfl (by decide) (stp_move (.inl rfl) rfl) ?_; refine awps_nil ?_; refine thenQ_nil ?_; refine ⟨?_, ?_, ?_⟩
    · skip
      omega
    · skip
      omega
    exact sub_re (SubT.cons (lk_eq rfl (by first | rfl | simp)) (SubT.cons (lk_eq rfl (by first | rfl | simp)) (SubT.cons (lk_eq rfl (by first | rfl | simp)) (SubT.cons (lk_eq rfl (by first | rfl | simp)) (SubT.cons (lk_eq rfl (by first | rfl | simp)) (SubT.nil)))))) (SubO.cons (ok_eq rfl (by rfl)) (SubO.cons (ok_eq rfl (by rw [hfe]; try rfl)) (SubO.nil))) rfl rfl (noL' (noL hL) _)
  try simp only [↓cqA, cqB] at c0
  refine awp_exit ?_; refine thenQ_exit (thenQ_exit (inQ_hit ?_)); refine thenQ_nil ?_; refine awp_seq ?_; refine awp_sub (sub_freeze (l := 4) rfl (by decide) (noL hL _) rfl rfl) ?_; refine awp_region ?_; refine awps_stp0 rfl rfl (by decide) (stp_move (.inl rfl) rfl) ?_; refine awps_stp0 rfl rfl (by decide) (stp_move (.inr rfl) rfl) ?_; refine awps_nil ?_; refine thenQ_nil ?_; refine awp_ret ?_
  -- leaf 0F
  refine ret0 (noL hL) (.inl rfl) (resAs_tmp rfl (resAs_nil)) ?_ ?_
  · rfl
  exact ⟨by rw [List.take_of_length_le (by omega)]; rfl, rfl⟩
abbrev gdA (g : Gd) : AV := .agg (lift false (gdD g))
def cmpdB (l : List Bd) (g : Gd) : Bool := mayT (putT l g.l) && mayT (putT l g.r) && guardC g.kind (putT l g.l) (putT l g.r)
theorem compared_ok (l : List Bd) (hl : BOk l) (g : Gd) (hg : g.wf) (h1 : mayT g.l = true) (h2 : mayT g.r = true) : PF 217 [bdA l, gdA g] (bv (cmpdB l g)) := by
  have w1 := hg.2.1
  have w2 := hg.2.2
  have p1 := putT_wf hl w1
  have p2 := putT_wf hl w2
  refine AC_intro Tryz.func217 rfl Tryz.ntmps217 (Nat.le_of_ble_eq_true rfl) fun c hL hQ hDD => ?_; refine awp_seq ?_; refine awp_region ?_; refine awps_stp1 rfl rfl (by decide) (stp_box 3 rfl rfl rfl) rfl ?_; refine awps_stp0 rfl rfl (by decide) (stp_move (.inr rfl) rfl) ?_; refine awps_nil ?_; refine thenQ_nil ?_; refine awp_seq ?_; refine awp_drawG 10 mixed rfl rfl rfl rfl ?_; refine MGo_c0 rfl (by decide) (.run rfl (stp_move (.inl rfl) rfl)) ?_; refine MGo_c0 rfl (by decide) (.run rfl (stp_fieldAddr rfl fo_api_Guard_1 rfl)) ?_
  refine MGo_c0 rfl (by decide) (.run rfl (stp_load rfl tf_api_Term rfl rfl rfl rfl rfl)) ?_; refine MGo_c0 rfl (by decide) (.run rfl (stp_call (avs := [_, _]) true rfl en_bind_Put rfl rfl (Put_ok l hl g.l (may_dle h1) w1) (fun _ => rfl) rfl)) ?_; refine MGo_c0 rfl (by decide) (.run rfl (stp_move (.inl rfl) rfl)) ?_; refine MGo_c0 rfl (by decide) (.run rfl (stp_fieldAddr rfl fo_api_Guard_2 rfl)) ?_; refine MGo_c0 rfl (by decide) (.run rfl (stp_load rfl tf_api_Term rfl rfl rfl rfl rfl)) ?_
  refine MGo_c0 rfl (by decide) (.run rfl (stp_call (avs := [_, _]) true rfl en_bind_Put rfl rfl (Put_ok l hl g.r (may_dle h2) w2) (fun _ => rfl) rfl)) ?_; refine MGo_c1 rfl (by decide) (.run rfl (stp_alloc 5 rfl zv_api_Term rfl)) ?_; refine MGo_c1 rfl (by decide) (.run rfl (stp_alloc 6 rfl zv_api_Term rfl)) ?_; refine MGo_nil ⟨rfl, rfl, ?_⟩
  refine awps_store rfl rfl rfl tf_api_Term rfl rfl rfl rfl rfl rfl rfl rfl rfl ?_; refine awps_store rfl rfl rfl tf_api_Term rfl rfl rfl rfl rfl rfl rfl rfl rfl ?_; refine awps_nil ?_; refine thenQ_nil ?_; refine awp_seq ?_; refine awp_seq ?_; refine awp_region ?_; refine awps_stp0 rfl rfl (by decide) (stp_load_all rfl tf_api_Term rfl rfl rfl rfl) ?_
  refine awps_call (avs := [_]) true rfl rfl rfl (by decide) en_term_May rfl rfl (May_ok (putT l g.l) p1) rfl rfl ?_; refine awps_stp0 rfl rfl (by decide) (stp_not rfl rfl) ?_; refine awps_stp0 rfl rfl (by decide) (stp_move (.inl rfl) rfl) ?_; refine awps_split 20 rfl (fun g20 => ?_) (fun g20 => ?_)
  · try simp only [↓cqA, cqB] at g20
    refine awps_gs rfl rfl rfl rfl (by decide) rfl (by decide) ?_; refine awps_gs rfl rfl rfl rfl (by decide) rfl (by decide) ?_; refine awps_gs rfl rfl rfl rfl (by decide) rfl (by decide) ?_; refine awps_stp0 rfl rfl (by decide) (stp_pick rfl rfl rfl) ?_; refine awps_nil ?_; refine thenQ_nil ?_; refine awp_condT rfl ?_; refine awp_seq ?_; refine awp_region ?_; refine awps_stp0 rfl rfl (by decide) (stp_move (.inr rfl) rfl) ?_; refine awps_nil ?_; refine thenQ_nil ?_; refine awp_ret ?_; refine thenQ_ret (?_)
    -- leaf g20T
    refine ret0 (noL hL) (.inl rfl) (resAs_tmp rfl (resAs_nil)) ?_ ?_
    · rfl
    refine ⟨bool_w ?_, rfl⟩
    simp_all [cmpdB]
    try simp_all [guardC]
  try simp only [↓cqA, cqB] at g20
  refine awps_g0 rfl rfl rfl (by decide) rfl (by decide) (stp_load_all rfl tf_api_Term rfl rfl rfl rfl) ?_; refine awps_g0 rfl rfl rfl (by decide) rfl (by decide) (stp_call (avs := [_]) true rfl en_term_May rfl rfl (May_ok (putT l g.r) p2) (fun _ => rfl) rfl) ?_; refine awps_g0 rfl rfl rfl (by decide) rfl (by decide) (stp_not rfl rfl) ?_; refine awps_stp0 rfl rfl (by decide) (stp_pick rfl rfl rfl) ?_; refine awps_nil ?_; refine thenQ_nil ?_; refine awp_cond rfl (fun c0 => ?_) (fun c0 => ?_)
  · try simp only [↓cqA, cqB] at c0
    refine awp_seq ?_; refine awp_region ?_; refine awps_stp0 rfl rfl (by decide) (stp_move (.inr rfl) rfl) ?_; refine awps_nil ?_; refine thenQ_nil ?_; refine awp_ret ?_; refine thenQ_ret (?_)
    -- leaf g20F0T
    refine ret0 (noL hL) (.inl rfl) (resAs_tmp rfl (resAs_nil)) ?_ ?_
    · rfl
    refine ⟨bool_w ?_, rfl⟩
    simp_all [cmpdB]
    try simp_all [guardC]
  try simp only [↓cqA, cqB] at c0
  refine awp_skip ?_; refine thenQ_nil ?_; refine awp_seq ?_; refine awp_region ?_; refine awps_stp0 rfl rfl (by decide) (stp_fieldAddr rfl fo_api_Guard_0 rfl) ?_; refine awps_stp0 rfl rfl (by decide) (stp_load rfl tf_int rfl rfl rfl rfl rfl) ?_; refine awps_stp0 rfl rfl (by decide) (stp_load_all rfl tf_api_Term rfl rfl rfl rfl) ?_; refine awps_stp0 rfl rfl (by decide) (stp_load_all rfl tf_api_Term rfl rfl rfl rfl) ?_
  refine awps_call (avs := [_, _, _]) true rfl rfl rfl (by decide) en_guard_Compare rfl rfl (guardCompare_ok g.kind (putT l g.l) (putT l g.r) p1 p2) rfl rfl ?_; refine awps_stp0 rfl rfl (by decide) (stp_move (.inl rfl) rfl) ?_; refine awps_stp0 rfl rfl (by decide) (stp_extract rfl rfl rfl) ?_; refine awps_stp0 rfl rfl (by decide) (stp_extract rfl rfl rfl) ?_
  refine awps_stp0 rfl rfl (by decide) (stp_move (.inr rfl) rfl) ?_; refine awps_stp0 rfl rfl (by decide) (stp_move (.inr rfl) rfl) ?_; refine awps_nil ?_; refine thenQ_nil ?_; refine awp_seq ?_; refine awp_region ?_; refine awps_stp0 rfl rfl (by decide) (stp_move (.inl rfl) rfl) ?_; refine awps_stp0 rfl rfl (by decide) (stp_move (.inl rfl) rfl) ?_; refine awps_split 34 rfl (fun g34 => ?_) (fun g34 => ?_)
  · try simp only [↓cqA, cqB] at g34
    refine awps_g0 rfl rfl rfl (by decide) rfl (by decide) (stp_move (.inl rfl) rfl) ?_; refine awps_g0 rfl rfl rfl (by decide) rfl (by decide) (stp_binI rfl rfl rfl rfl) ?_; refine awps_stp0 rfl rfl (by decide) (stp_pick rfl rfl rfl) ?_; refine awps_stp0 rfl rfl (by decide) (stp_move (.inr rfl) rfl) ?_; refine awps_nil ?_; refine thenQ_nil ?_; refine awp_ret ?_
    -- leaf g20F0Fg34T
    refine ret0 (noL hL) (.inl rfl) (resAs_tmp rfl (resAs_nil)) ?_ ?_
    · rfl
    refine ⟨bool_w ?_, rfl⟩
    simp_all [cmpdB]
    try simp_all [guardC]
  try simp only [↓cqA, cqB] at g34
  refine awps_gs rfl rfl rfl rfl (by decide) rfl (by decide) ?_; refine awps_gs rfl rfl rfl rfl (by decide) rfl (by decide) ?_; refine awps_stp0 rfl rfl (by decide) (stp_pick rfl rfl rfl) ?_; refine awps_stp0 rfl rfl (by decide) (stp_move (.inr rfl) rfl) ?_; refine awps_nil ?_; refine thenQ_nil ?_; refine awp_ret ?_
  -- leaf g20F0Fg34F
  refine ret0 (noL hL) (.inl rfl) (resAs_tmp rfl (resAs_nil)) ?_ ?_
  · rfl
  refine ⟨bool_w ?_, rfl⟩
  simp_all [cmpdB]
  try simp_all [guardC]
def keyOne (b : Bd) : ByteArray := b.name ++ ⟨#[32]⟩ ++ ⟨(keyL 5 b.t).toArray⟩
def keyB (l : List Bd) : ByteArray := l.foldl (fun s b => s ++ keyOne b) ⟨#[]⟩
theorem keyB_snoc {l : List Bd} {k : Nat} {u : Bd} (hu : l[k]? = some u) : keyB (l.take (k + 1)) = keyB (l.take k) ++ keyOne u := by
  rw [take_snoc hu, keyB, List.foldl_append]; rfl
theorem keyOne_size {b : Bd} (hb : b.wf) (hm : mayT b.t = true) : (keyOne b).size ≤ 140737488352000 := by
  have h1 := keyL_len 5 b.t (may_shp hm)
  have h2 := ((mayT_iff b.t).1 hm).2.2
  have h3 := hb.1
  have e8 : (ByteArray.mk (keyL 5 b.t).toArray).size = (keyL 5 b.t).length := by simp [ByteArray.size]
  have e9 : (ByteArray.mk #[32]).size = 1 := rfl
  simp only [keyOne, ByteArray.size_append, e8, e9]; omega
theorem keyB_sizeM {l : List Bd} (M : Nat) (hl : ∀ b ∈ l, (keyOne b).size ≤ M) : ∀ k, (keyB (l.take k)).size ≤ k * M
  | 0 => by
    have : (keyB (l.take 0)).size = 0 := by rw [List.take_zero]; rfl
    omega
  | k + 1 => by
    have ih := keyB_sizeM M hl k
    rw [Nat.succ_mul]
    cases hu : l[k]? with
    | none =>
      have : l.take (k + 1) = l.take k := by
        have := List.getElem?_eq_none_iff.1 hu
        rw [List.take_of_length_le (by omega), List.take_of_length_le (by omega)]
      rw [this]; omega
    | some u =>
      have := hl u (List.mem_of_getElem? hu)
      rw [keyB_snoc hu, ByteArray.size_append]; omega
theorem keyB_size {l : List Bd} (hl : ∀ b ∈ l, b.wf ∧ mayT b.t = true) (k : Nat) : (keyB (l.take k)).size ≤ k * 140737488352000 := keyB_sizeM _ (fun b hb => keyOne_size (hl b hb).1 (hl b hb).2) k
theorem key_ok (l : List Bd) (hl : BOk l) : PF 218 [bdA l] (sv (keyB l)) := by
  have hlen := bdDs_length l
  have hll := hl.len
  refine AC_intro Tryz.func218 rfl Tryz.ntmps218 (Nat.le_of_ble_eq_true rfl) fun c hL hQ hDD => ?_; refine awp_seq ?_; refine awp_region ?_; refine awps_stp0 rfl rfl (by decide) (stp_move (.inr rfl) rfl) ?_; refine awps_nil ?_; refine thenQ_nil ?_; refine awp_seq ?_; refine awp_region ?_; refine awps_stp0 rfl rfl (by decide) (stp_move (.inr rfl) rfl) ?_; refine awps_nil ?_; refine thenQ_nil ?_; refine awp_seq ?_; refine awp_seq ?_; refine awp_region ?_; refine awps_stp0 rfl rfl (by decide) (stp_move (.inl rfl) rfl) ?_
  refine awps_stp0 rfl rfl (by decide) (stp_len_dat rfl sl_S_api_Bind rfl) ?_; refine awps_stp0 rfl rfl (by decide) (stp_move (.inl rfl) rfl) ?_; refine awps_nil ?_; refine thenQ_nil ?_; refine awp_block ?_; refine awp_while (l.length) (fun k => k ≤ l.length) (fun k => ⟨[(3, sv (keyB (l.take k))), (6, bdA l), (7, iv (bdDs l).length), (8, iv (k : Int))], []⟩) (by omega) ?_ (fun k hk hp => ?_)
  · exact sub_re (SubT.cons (lk_eq rfl (by first | rfl | simp)) (SubT.cons (lk_eq rfl (by first | rfl | simp)) (SubT.cons (lk_eq rfl (by first | rfl | simp)) (SubT.cons (lk_eq rfl (by first | rfl | simp)) (SubT.nil))))) (SubO.nil) rfl rfl (noL' (noL hL) _)
  have hsz := keyB_size hl.el k
  refine awp_seq ?_; refine awp_region ?_; refine awps_stp0 rfl rfl (by decide) (stp_binI rfl rfl rfl rfl) ?_; refine awps_nil ?_; refine thenQ_nil ?_; refine awp_seq ?_; refine awp_cond rfl (fun c0 => ?_) (fun c0 => ?_)
  · try simp only [↓cqA, cqB] at c0
    obtain ⟨u, hu⟩ := get_of_lt (l := l) (k := k) (by omega)
    have hum := hl.el u (List.mem_of_getElem? hu)
    have hk1 := keyL_len 5 u.t (may_shp hum.2)
    have hk2 := ((mayT_iff u.t).1 hum.2).2.2
    have hk3 := hum.1.1
    have hk4 := keyOne_size hum.1 hum.2
    have e8 : (ByteArray.mk (keyL 5 u.t).toArray).size = (keyL 5 u.t).length := by simp [ByteArray.size]
    have e9 : (ByteArray.mk #[32]).size = 1 := rfl
    have e10 : (u.name ++ ⟨#[32]⟩).size = u.name.size + 1 := by rw [ByteArray.size_append]; rfl
    refine awp_skip ?_; refine thenQ_nil ?_; refine awp_seq ?_; refine awp_block ?_; refine awp_seq ?_; refine awp_region ?_; refine awps_stp0 rfl rfl (by decide) (stp_indexAddr rfl sl_S_api_Bind rfl rfl (by omega) (bdDs_get hu)) ?_; refine awps_stp0 rfl rfl (by decide) (stp_load_elpa rfl tf_api_Bind rfl rfl) ?_
    refine awps_stp1 rfl rfl (by decide) (stp_alloc 5 rfl zv_api_Bind rfl) rfl ?_; refine awps_store rfl rfl rfl tf_api_Bind rfl rfl rfl rfl rfl rfl rfl rfl rfl ?_; refine awps_nil ?_; refine thenQ_nil ?_; refine awp_drawG 8 mixed rfl rfl rfl rfl ?_; refine MGo_c0 rfl (by decide) (.run rfl (stp_move (.inl rfl) rfl)) ?_; refine MGo_c0 rfl (by decide) (.run rfl (stp_fieldAddr rfl fo_api_Bind_0 rfl)) ?_; refine MGo_c0 rfl (by decide) (.run rfl (stp_load rfl tf_string rfl rfl rfl rfl rfl)) ?_
    refine MGo_c0 rfl (by decide) (.run rfl (stp_binS (r := .string (u.name ++ ⟨#[32]⟩)) rfl rfl rfl (by simp only [binS]; exact if_pos (by rw [e9]; omega)))) ?_; refine MGo_c0 rfl (by decide) (.run rfl (stp_fieldAddr rfl fo_api_Bind_1 rfl)) ?_; refine MGo_c0 rfl (by decide) (.run rfl (stp_load rfl tf_api_Term rfl rfl rfl rfl rfl)) ?_
    refine MGo_c0 rfl (by decide) (.run rfl (stp_call (avs := [_]) true rfl en_term_Key rfl rfl (Key_ok 5 u.t (may_dle hum.2) (may_shp hum.2) hum.1.2 (by omega)) (fun _ => rfl) rfl)) ?_; refine MGo_c0 rfl (by decide) (.run rfl (stp_binS (r := .string (keyOne u)) rfl rfl rfl (by simp only [binS]; exact if_pos (by rw [e10, e8]; omega)))) ?_; refine MGo_nil ⟨rfl, rfl, ?_⟩
    refine awps_stp0 rfl rfl (by decide) (stp_binS (r := .string (keyB (l.take k) ++ keyOne u)) rfl rfl rfl (by simp only [binS]; exact if_pos (by omega))) ?_; refine awps_stp0 rfl rfl (by decide) (stp_move (.inr rfl) rfl) ?_; refine awps_nil ?_; refine inQ_nil ?_; refine thenQ_nil ?_; refine awp_region ?_; refine awps_stp0 rfl rfl (by decide) (stp_add rfl rfl rfl (by omega)) ?_; refine awps_stp0 rfl rfl (by decide) (stp_move (.inl rfl) rfl) ?_; refine awps_nil ?_; refine thenQ_nil ?_; refine ⟨?_, ?_, ?_⟩
    · skip
      omega
    · skip
      omega
    exact sub_re (SubT.cons (lk_eq rfl (by rw [keyB_snoc hu])) (SubT.cons (lk_eq rfl (by first | rfl | simp)) (SubT.cons (lk_eq rfl (by first | rfl | simp)) (SubT.cons (lk_eq rfl (by first | rfl | simp)) (SubT.nil))))) (SubO.nil) rfl rfl (noL' (noL hL) _)
  try simp only [↓cqA, cqB] at c0
  refine awp_exit ?_; refine thenQ_exit (thenQ_exit (inQ_hit ?_)); refine thenQ_nil ?_; refine awp_seq ?_; refine awp_region ?_; refine awps_stp0 rfl rfl (by decide) (stp_move (.inl rfl) rfl) ?_; refine awps_stp0 rfl rfl (by decide) (stp_move (.inr rfl) rfl) ?_; refine awps_nil ?_; refine thenQ_nil ?_; refine awp_ret ?_
  -- leaf 0F
  refine ret0 (noL hL) (.inl rfl) (resAs_tmp rfl (resAs_nil)) ?_ ?_
  · rfl
  exact ⟨by rw [List.take_of_length_le (by omega)]; rfl, rfl⟩
def onceS (x : List (List Bd)) (y : List Bd) : List (List Bd) := if (x.map keyB).any (fun s => decide (s = keyB y)) = true then x else x ++ [y]
def onceL (l : List (List Bd)) : List (List Bd) := l.foldl onceS []
theorem onceL_snoc {l : List (List Bd)} {k : Nat} {u : List Bd} (hu : l[k]? = some u) : onceL (l.take (k + 1)) = onceS (onceL (l.take k)) u := by
  rw [take_snoc hu, onceL, List.foldl_append]; rfl
theorem onceS_len (x : List (List Bd)) (y : List Bd) : (onceS x y).length ≤ x.length + 1 := by
  unfold onceS; split <;> simp
theorem onceL_len (l : List (List Bd)) : ∀ k, (onceL (l.take k)).length ≤ k
  | 0 => by simp [onceL]
  | k + 1 => by
    have ih := onceL_len l k
    cases hu : l[k]? with
    | none =>
      have : l.take (k + 1) = l.take k := by
        have := List.getElem?_eq_none_iff.1 hu
        rw [List.take_of_length_le (by omega), List.take_of_length_le (by omega)]
      rw [this]; omega
    | some u => rw [onceL_snoc hu]; have := onceS_len (onceL (l.take k)) u; omega
theorem once_ok (l : List (List Bd)) (hn : l.length ≤ 1000000) (hl : ∀ y ∈ l, BOk y) : AC Tryz.prog 171 [.dat false 1 (bdlDs l)] [] (fun r O => r = .row 2 ∧ O = [(2, .rowd 28 1 false (bdlDs (onceL l)))]) := by
  have hlen := bdlDs_length l
  have hmx : maxLen = 9223372036854775807 := rfl
  refine AC_intro Tryz.func171 rfl Tryz.ntmps171 (Nat.le_of_ble_eq_true rfl) fun c hL hQ hDD => ?_; refine awp_seq ?_; refine awp_region ?_; refine awps_stp0 rfl rfl (by decide) (stp_move (.inr rfl) rfl) ?_; refine awps_nil ?_; refine thenQ_nil ?_; refine awp_seq ?_; refine awp_region ?_; refine awps_stp1 rfl rfl (by decide) (stp_makeMap 7 rfl (Go.Maps.string_keyed ul_string)) rfl ?_
  refine awps_stp0 rfl rfl (by decide) (stp_move (.inr rfl) rfl) ?_; refine awps_nil ?_; refine thenQ_nil ?_; refine awp_seq ?_; refine awp_seq ?_; refine awp_region ?_; refine awps_stp0 rfl rfl (by decide) (stp_move (.inl rfl) rfl) ?_; refine awps_stp0 rfl rfl (by decide) (stp_len_dat rfl sl_S_S_api_Bind rfl) ?_; refine awps_stp0 rfl rfl (by decide) (stp_move (.inl rfl) rfl) ?_; refine awps_nil ?_; refine thenQ_nil ?_; refine awp_block ?_
  refine awp_while (l.length) (fun k => k ≤ l.length) (fun k => ⟨[(2, .row 2), (3, .map 7), (8, .dat false 1 (bdlDs l)), (9, iv (bdlDs l).length), (10, iv (k : Int))], [(2, .rowd 28 1 false (bdlDs (onceL (l.take k)))), (7, mpS (((onceL (l.take k)).map keyB).reverse))]⟩) (by omega) ?_ (fun k hk hp => ?_)
  · exact Sub.trans (sub_nil_row (t := 2) (l := 2) 28 1 false rfl rfl) (sub_re (SubT.cons (lk_eq rfl (by first | rfl | simp)) (SubT.cons (lk_eq rfl (by first | rfl | simp)) (SubT.cons (lk_eq rfl (by first | rfl | simp)) (SubT.cons (lk_eq rfl (by first | rfl | simp)) (SubT.cons (lk_eq rfl (by first | rfl | simp)) (SubT.nil)))))) (SubO.cons (ok_eq rfl (by rfl)) (SubO.cons (ok_eq rfl (by rfl)) (SubO.nil))) rfl rfl (noL' (noL hL) _))
  have hol := onceL_len l k
  have hl2 : (bdlDs (onceL (l.take k))).length ≤ l.length := by rw [bdlDs_length]; omega
  have hl3 : (litS (((onceL (l.take k)).map keyB).reverse)).length ≤ l.length := by rw [litS_length]; simp; omega
  refine awp_seq ?_; refine awp_region ?_; refine awps_stp0 rfl rfl (by decide) (stp_binI rfl rfl rfl rfl) ?_; refine awps_nil ?_; refine thenQ_nil ?_; refine awp_seq ?_; refine awp_cond rfl (fun c0 => ?_) (fun c0 => ?_)
  · try simp only [↓cqA, cqB] at c0
    obtain ⟨u, hu⟩ := get_of_lt (l := l) (k := k) (by omega)
    have hum := hl u (List.mem_of_getElem? hu)
    have hos := onceL_snoc hu
    have hks : (keyB u).size ≤ maxLen := by
      have h1 := keyB_size hum.el u.length
      rw [List.take_length] at h1
      have := hum.len; omega
    have hlk : (((onceL (l.take k)).map keyB).any (fun s => decide (s = keyB u)) = true) ↔ Lit.string (keyB u).data.toList ∈ litS (((onceL (l.take k)).map keyB).reverse) := by
      rw [litS_mem, List.mem_reverse, List.any_eq_true]
      constructor
      · rintro ⟨s, hs, e⟩; rw [← of_decide_eq_true e]; exact hs
      · intro h; exact ⟨_, h, by simp⟩
    refine awp_skip ?_; refine thenQ_nil ?_; refine awp_seq ?_; refine awp_block ?_; refine awp_seq ?_; refine awp_region ?_; refine awps_stp0 rfl rfl (by decide) (stp_indexAddr rfl sl_S_S_api_Bind rfl rfl (by omega) (bdlDs_get hu)) ?_; refine awps_stp0 rfl rfl (by decide) (stp_load_elp1 rfl tf_S_api_Bind rfl) ?_
    refine awps_stp0 rfl rfl (by decide) (stp_move (.inr rfl) rfl) ?_; refine awps_nil ?_; refine thenQ_nil ?_; refine awp_seq ?_; refine awp_region ?_; refine awps_stp0 rfl rfl (by decide) (stp_move (.inl rfl) rfl) ?_; refine awps_call (avs := [_]) true rfl rfl rfl (by decide) en_guard_key rfl rfl (key_ok u hum) rfl rfl ?_; refine awps_stp0 rfl rfl (by decide) (stp_move (.inr rfl) rfl) ?_
    refine awps_nil ?_; refine thenQ_nil ?_; refine awp_seq ?_; refine awp_region ?_; refine awps_stp0 rfl rfl (by decide) (stp_move (.inl rfl) rfl) ?_; refine awps_stp0 rfl rfl (by decide) (stp_move (.inl rfl) rfl) ?_; refine awps_stp0 rfl rfl (by decide) (stp_mapGet rfl um_map_string_bool Tryz.zeroValue4 rfl rfl rfl rfl (Go.WideMaps.keyOf_string_mk ul_string hks) (hlk)) ?_; refine awps_stp0 rfl rfl (by decide) (stp_not rfl rfl) ?_; refine awps_nil ?_; refine thenQ_nil ?_; refine awp_cond rfl (fun c1 => ?_) (fun c1 => ?_)
    · try simp only [↓cqA, cqB] at c1
      have hoe : onceL (l.take (k + 1)) = onceL (l.take k) ++ [u] := by rw [hos, onceS, if_neg (by simpa using c1)]
      refine awp_seq ?_; refine awp_region ?_; refine awps_stp0 rfl rfl (by decide) (stp_move (.inl rfl) rfl) ?_; refine awps_stp0 rfl rfl (by decide) (stp_move (.inl rfl) rfl) ?_; refine awps_mapSet rfl rfl rfl um_map_string_bool rfl rfl rfl rfl rfl (Go.WideMaps.keyOf_string_mk ul_string (hks)) (by omega) ?_; refine awps_nil ?_; refine thenQ_nil ?_; refine awp_region ?_
      refine awps_stp0 rfl rfl (by decide) (stp_move (.inl rfl) rfl) ?_; refine awps_stp0 rfl rfl (by decide) (stp_move (.inl rfl) rfl) ?_; refine awps_stp1 rfl rfl (by decide) (stp_buildSlice 24 rfl sl_S_S_api_Bind zv_S_api_Bind rfl rfl (by decide) (by decide) (by decide) rfl rfl rfl) rfl ?_; refine awps_u rfl rfl (by decide) (stpU_append1 25 ta_S_S_api_Bind rfl rfl rfl rfl rfl rfl rfl rfl (noL hL _) (by omega) rfl) rfl ?_
      refine awps_sub (sub_rename 25 2 (noL hL _) (noL hL _)) ?_; refine awps_stp0 rfl rfl (by decide) (stp_move (.inr rfl) rfl) ?_; refine awps_nil ?_; refine inQ_nil ?_; refine thenQ_nil ?_; refine awp_region ?_; refine awps_stp0 rfl rfl (by decide) (stp_add rfl rfl rfl (by omega)) ?_; refine awps_stp0 rfl rfl (by decide) (stp_move (.inl rfl) rfl) ?_; refine awps_nil ?_; refine thenQ_nil ?_; refine ⟨?_, ?_, ?_⟩
      · skip
        omega
      · skip
        omega
      exact sub_re (SubT.cons (lk_eq rfl (by first | rfl | simp)) (SubT.cons (lk_eq rfl (by first | rfl | simp)) (SubT.cons (lk_eq rfl (by first | rfl | simp)) (SubT.cons (lk_eq rfl (by first | rfl | simp)) (SubT.cons (lk_eq rfl (by first | rfl | simp)) (SubT.nil)))))) (SubO.cons (ok_eq rfl (by rw [hoe]; try rw [bdlDs_snoc]; try rfl)) (SubO.cons (ok_eq rfl (by rw [hoe]; try (simp [litS, Ob.rn]; done); try rfl)) (SubO.nil))) rfl rfl (noL' (noL hL) _)
    try simp only [↓cqA, cqB] at c1
    have hoe : onceL (l.take (k + 1)) = onceL (l.take k) := by rw [hos, onceS, if_pos (by simpa using c1)]
    refine awp_skip ?_; refine inQ_nil ?_; refine thenQ_nil ?_; refine awp_region ?_; refine awps_stp0 rfl rfl (by decide) (stp_add rfl rfl rfl (by omega)) ?_; refine awps_stp0 rfl rfl (by decide) (stp_move (.inl rfl) rfl) ?_; refine awps_nil ?_; refine thenQ_nil ?_; refine ⟨?_, ?_, ?_⟩
    · skip
      omega
    · skip
      omega
    exact sub_re (SubT.cons (lk_eq rfl (by first | rfl | simp)) (SubT.cons (lk_eq rfl (by first | rfl | simp)) (SubT.cons (lk_eq rfl (by first | rfl | simp)) (SubT.cons (lk_eq rfl (by first | rfl | simp)) (SubT.cons (lk_eq rfl (by first | rfl | simp)) (SubT.nil)))))) (SubO.cons (ok_eq rfl (by rw [hoe]; try rw [bdlDs_snoc]; try rfl)) (SubO.cons (ok_eq rfl (by rw [hoe]; try (simp [litS, Ob.rn]; done); try rfl)) (SubO.nil))) rfl rfl (noL' (noL hL) _)
  try simp only [↓cqA, cqB] at c0
  refine awp_exit ?_; refine thenQ_exit (thenQ_exit (inQ_hit ?_)); refine thenQ_nil ?_; refine awp_seq ?_; refine awp_region ?_; refine awps_stp0 rfl rfl (by decide) (stp_move (.inl rfl) rfl) ?_; refine awps_stp0 rfl rfl (by decide) (stp_move (.inr rfl) rfl) ?_; refine awps_nil ?_; refine thenQ_nil ?_; refine awp_ret ?_
  -- leaf 0F
  change retQ _ _ _ _ _ _ _
  refine retO (O' := [(2, _)]) (.inl rfl) (resAs_tmp rfl resAs_nil) (SubO.cons rfl SubO.nil) ?_ ?_ (noL' (noL hL) _) ?_
  · rfl
  · rfl
  exact ⟨rfl, by rw [List.take_of_length_le (by omega)]⟩
end Go.Proofs.YtdecgkhdbfgldaaGreat

set_option linter.unusedVariables false
set_option linter.unusedSimpArgs false
set_option maxRecDepth 8000
namespace Go.Proofs.YtdecgkhdbfgldaaGreat
open Go
theorem standL_len16 (l : List Bd) (s : ByteArray) (t : Tm) : (standL l s t).length ≤ 16 := by
  unfold standL
  split
  · simp
  · rename_i h
    rw [ins_length _ _ _ (by rw [subB_length]; exact posB_le l s), subB_length]
    simp only [not_or] at h; omega
mutual
theorem fitR_len16 : ∀ (d : Nat) (l : List Bd) (a b : Tm), l.length ≤ 16 → (fitR d l a b).1.length ≤ 16
  | 0, l, a, b, _ => by rw [fitR]; simp
  | d + 1, l, a, b, h => by
    rw [fitR]
    split
    · split
      · split
        · exact h
        · simp
      · exact standL_len16 l a.name b
    · split
      · exact fitL_len16 d (a.args.zip b.args) l h
      · simp
theorem fitL_len16 : ∀ (d : Nat) (ps : List (Tm × Tm)) (l : List Bd), l.length ≤ 16 → (fitL d l ps).1.length ≤ 16
  | d, [], l, h => by rw [fitL]; exact h
  | d, p :: ps, l, h => by
    rw [fitL]
    split
    · simp
    · exact fitL_len16 d ps _ (fitR_len16 d l p.1 p.2 h)
end
theorem ansL_len16 (k : List Tm) (a : Tm) : ∀ y ∈ ansL k a, y.length ≤ 16 := fun y hy => by
  obtain ⟨t, _, rfl⟩ := List.mem_map.1 hy
  exact fitR_len16 5 [] a t (by simp)
def behL (k : List Tm) (l : List Bd) (g : Gd) : List (List Bd) :=
  if g.kind = 5 then (if (mayT (putT l g.l) && flatB (putT l g.l)) = true then ((ansL k (putT l g.l)).filter fun y => decide (bothE l y = 0)).map fun y => bothL l y else [])
  else if g.kind = 6 then (if (mayT (putT l g.l) && groundB (putT l g.l) && !(flatB (putT l g.l) && decide (0 < (ansL k (putT l g.l)).length))) = true then [l] else [])
  else if cmpdB l g = true then [l] else []
theorem behL_bok {k : List Tm} (hk : ∀ t ∈ k, t.wf ∧ mayT t = true) {l : List Bd} (hl : BOk l) {g : Gd} (hg : g.wf) : ∀ y ∈ behL k l g, BOk y := fun y hy => by
  unfold behL at hy
  split at hy
  · split at hy
    · obtain ⟨z, hz, rfl⟩ := List.mem_map.1 hy
      exact bothL_ok hl (ansL_bok hk (putT_wf hl hg.2.1) z (List.mem_filter.1 hz).1)
    · cases hy
  · split at hy
    · split at hy
      · rw [List.mem_singleton.1 hy]; exact hl
      · cases hy
    · split at hy
      · rw [List.mem_singleton.1 hy]; exact hl
      · cases hy
theorem behL_len (k : List Tm) (l : List Bd) (g : Gd) : (behL k l g).length ≤ k.length + 1 := by
  unfold behL
  split
  · split
    · rw [List.length_map]; have := List.length_filter_le (fun y => decide (bothE l y = 0)) (ansL k (putT l g.l)); have := ansL_len k (putT l g.l); omega
    · simp
  · split <;> split <;> simp
def blPost (X : List (List Bd)) (r : AV) : Prop := (r = .imm (.slice none 0 0) ∧ X = []) ∨ r = .dat false 1 (bdlDs X)
theorem blPost_ok {f : FuncId} {args : List AV} {X : List (List Bd)} (h : AC Tryz.prog f args [] (fun r O => blPost X r ∧ O = [])) : PF f args (.dat false 1 (bdlDs X)) :=
  AC_leP h (fun r O' h => by
    obtain ⟨⟨rfl, e1⟩ | rfl, rfl⟩ := h
    · exact ⟨_, .nil (f := false) (k := 1), by rw [e1]; rfl, rfl⟩
    · exact ⟨_, .refl, rfl, rfl⟩)
theorem behind_ok (k : List Tm) (hkl : k.length ≤ 60) (hk : ∀ t ∈ k, t.wf ∧ mayT t = true) (l : List Bd) (hl : BOk l) (hl16 : l.length ≤ 16) (g : Gd) (hg : g.wf) (ho : okG g = true) : PF 170 [.dat false 4 (tmDs k), bdA l, gdA g] (.dat false 1 (bdlDs (behL k l g))) := by
  refine blPost_ok ?_
  have hlk := tmDs_length k
  have w1 := hg.2.1
  have hml : mayT g.l = true := by
    simp only [okG, cmpsB, Bool.or_eq_true, Bool.and_eq_true] at ho
    rcases ho with h | h
    · exact h.1.2
    · exact h.1.2.1
  have p1 := putT_wf hl w1
  have hal := ansL_len k (putT l g.l)
  have hab := ansL_bok hk p1
  have hbl := bdlDs_length (ansL k (putT l g.l))
  refine AC_intro Tryz.func170 rfl Tryz.ntmps170 (Nat.le_of_ble_eq_true rfl) fun c hL hQ hDD => ?_; refine awp_seq ?_; refine awp_region ?_; refine awps_stp1 rfl rfl (by decide) (stp_box 5 rfl rfl rfl) rfl ?_; refine awps_stp0 rfl rfl (by decide) (stp_move (.inr rfl) rfl) ?_; refine awps_nil ?_; refine thenQ_nil ?_; refine awp_seq ?_; refine awp_region ?_; refine awps_stp0 rfl rfl (by decide) (stp_move (.inl rfl) rfl) ?_; refine awps_stp0 rfl rfl (by decide) (stp_fieldAddr rfl fo_api_Guard_1 rfl) ?_; refine awps_stp0 rfl rfl (by decide) (stp_load rfl tf_api_Term rfl rfl rfl rfl rfl) ?_
  refine awps_call (avs := [_, _]) true rfl rfl rfl (by decide) en_bind_Put rfl rfl (Put_ok l hl g.l (may_dle hml) w1) rfl rfl ?_; refine awps_stp1 rfl rfl (by decide) (stp_alloc 7 rfl zv_api_Term rfl) rfl ?_; refine awps_store rfl rfl rfl tf_api_Term rfl rfl rfl rfl rfl rfl rfl rfl rfl ?_; refine awps_nil ?_; refine thenQ_nil ?_; refine awp_cut ⟨[(0, .dat false 4 (tmDs k)), (1, bdA l), (5, .ptr 5 0), (6, .imm (.slice none 0 0)), (7, .ptr 7 0), (8, bv (mayT (putT l g.l) && flatB (putT l g.l)))], [(5, .box (lift false (gdD g))), (7, .box (lift false (tmD (putT l g.l))))]⟩ ?_ ?_
  · skip
    refine awp_sub (sub_untag hQ) ?_; refine awp_region ?_; refine awps_stp0 rfl rfl (by decide) (stp_load_all rfl tf_api_Term rfl rfl rfl rfl) ?_; refine awps_call (avs := [_]) true rfl rfl rfl (by decide) en_term_May rfl rfl (May_ok (putT l g.l) p1) rfl rfl ?_; refine awps_stp0 rfl rfl (by decide) (stp_move (.inl rfl) rfl) ?_; refine awps_split 19 rfl (fun g19 => ?_) (fun g19 => ?_)
    · try simp only [↓cqA, cqB] at g19
      refine awps_g0 rfl rfl rfl (by decide) rfl (by decide) (stp_load_all rfl tf_api_Term rfl rfl rfl rfl) ?_; refine awps_g0 rfl rfl rfl (by decide) rfl (by decide) (stp_call (avs := [_]) true rfl en_term_Flat rfl rfl (Flat_ok (putT l g.l) (mayT_dle g19).1 p1) (fun _ => rfl) rfl) ?_; refine awps_stp0 rfl rfl (by decide) (stp_pick rfl rfl rfl) ?_; refine awps_stp0 rfl rfl (by decide) (stp_move (.inr rfl) rfl) ?_; refine awps_nil ?_
      exact thenQ_cut (sub_re (SubT.cons (lk_eq rfl (by first | rfl | simp)) (SubT.cons (lk_eq rfl (by first | rfl | simp)) (SubT.cons (lk_eq rfl (by first | rfl | simp)) (SubT.cons (lk_eq rfl (by first | rfl | simp)) (SubT.cons (lk_eq rfl (by first | rfl | simp)) (SubT.cons (lk_eq rfl (by first | (exact bool_imm (by simp [g19])) | rfl)) (SubT.nil))))))) (SubO.cons (ok_eq rfl (by rfl)) (SubO.cons (ok_eq rfl (by rfl)) (SubO.nil))) rfl rfl (noL' (noL hL) _))
    try simp only [↓cqA, cqB] at g19
    refine awps_gs rfl rfl rfl rfl (by decide) rfl (by decide) ?_; refine awps_gs rfl rfl rfl rfl (by decide) rfl (by decide) ?_; refine awps_stp0 rfl rfl (by decide) (stp_pick rfl rfl rfl) ?_; refine awps_stp0 rfl rfl (by decide) (stp_move (.inr rfl) rfl) ?_; refine awps_nil ?_
    exact thenQ_cut (sub_re (SubT.cons (lk_eq rfl (by first | rfl | simp)) (SubT.cons (lk_eq rfl (by first | rfl | simp)) (SubT.cons (lk_eq rfl (by first | rfl | simp)) (SubT.cons (lk_eq rfl (by first | rfl | simp)) (SubT.cons (lk_eq rfl (by first | rfl | simp)) (SubT.cons (lk_eq rfl (by first | (exact bool_imm (by simp [g19])) | rfl)) (SubT.nil))))))) (SubO.cons (ok_eq rfl (by rfl)) (SubO.cons (ok_eq rfl (by rfl)) (SubO.nil))) rfl rfl (noL' (noL hL) _))
  refine awp_seq ?_; refine awp_seq ?_; refine awp_region ?_; refine awps_stp0 rfl rfl (by decide) (stp_fieldAddr rfl fo_api_Guard_0 rfl) ?_; refine awps_stp0 rfl rfl (by decide) (stp_load rfl tf_int rfl rfl rfl rfl rfl) ?_; refine awps_nil ?_; refine thenQ_nil ?_; refine awp_block ?_; refine awp_seq ?_; refine awp_region ?_; refine awps_stp0 rfl rfl (by decide) (stp_binI rfl rfl rfl rfl) ?_; refine awps_stp0 rfl rfl (by decide) (stp_move (.inr rfl) rfl) ?_; refine awps_nil ?_; refine thenQ_nil ?_; refine awp_cond rfl (fun c0 => ?_) (fun c0 => ?_)
  · try simp only [↓cqA, cqB] at c0
    refine awp_seq ?_; refine awp_seq ?_; refine awp_region ?_; refine awps_stp0 rfl rfl (by decide) (stp_move (.inl rfl) rfl) ?_; refine awps_stp0 rfl rfl (by decide) (stp_not rfl rfl) ?_; refine awps_nil ?_; refine thenQ_nil ?_; refine awp_cond rfl (fun c1 => ?_) (fun c1 => ?_)
    · try simp only [↓cqA, cqB] at c1
      refine awp_seq ?_; refine awp_region ?_; refine awps_stp0 rfl rfl (by decide) (stp_move (.inr rfl) rfl) ?_; refine awps_nil ?_; refine thenQ_nil ?_; refine awp_ret ?_; refine thenQ_ret (inQ_ret (thenQ_ret (?_)))
      -- leaf 0T1T
      refine ret0 (noL hL) (.inl rfl) (resAs_tmp rfl (resAs_nil)) ?_ ?_
      · rfl
      refine ⟨?_, rfl⟩
      unfold behL
      first
        | (rw [if_pos c0, if_neg (by simp [c1])]; exact .inl ⟨rfl, rfl⟩)
        | (have e : (ansL k (putT l g.l)).take i = ansL k (putT l g.l) := List.take_of_length_le (by omega)
           rw [if_pos c0, if_pos c1, e]; exact .inr rfl)
        | (rw [if_neg (by assumption), if_pos (by assumption)]
           first
             | (rw [if_pos (by simp_all)]; exact .inr rfl)
             | (rw [if_neg (by simp_all)]; exact .inl ⟨rfl, rfl⟩))
        | (rw [if_neg (by assumption), if_neg (by assumption)]
           first
             | (rw [if_pos (by simp_all)]; exact .inr rfl)
             | (rw [if_neg (by simp_all)]; exact .inl ⟨rfl, rfl⟩))
        | trace_state
    try simp only [↓cqA, cqB] at c1
    have hf : mayT (putT l g.l) = true ∧ flatB (putT l g.l) = true := by simpa using c1
    refine awp_skip ?_; refine thenQ_nil ?_; refine awp_seq ?_; refine awp_seq ?_; refine awp_region ?_; refine awps_stp0 rfl rfl (by decide) (stp_move (.inl rfl) rfl) ?_; refine awps_stp0 rfl rfl (by decide) (stp_load_all rfl tf_api_Term rfl rfl rfl rfl) ?_; refine awps_call (avs := [_, _]) false rfl rfl rfl (by decide) en_known_Answers rfl rfl (Answers_ok k hkl hk (putT l g.l) p1 hf.1) rfl rfl ?_; refine awps_stp0 rfl rfl (by decide) (stp_len_dat rfl sl_S_S_api_Bind rfl) ?_
    refine awps_stp0 rfl rfl (by decide) (stp_move (.inl rfl) rfl) ?_; refine awps_nil ?_; refine thenQ_nil ?_; refine awp_block ?_; refine awp_while ((ansL k (putT l g.l)).length) (fun i => i ≤ (ansL k (putT l g.l)).length) (fun i => ⟨[(1, bdA l), (6, .row 6), (35, .dat false 1 (bdlDs (ansL k (putT l g.l)))), (36, iv (bdlDs (ansL k (putT l g.l))).length), (37, iv (i : Int))], [(6, .rowd 28 1 false (bdlDs ((((ansL k (putT l g.l)).take i).filter fun y => decide (bothE l y = 0)).map fun y => bothL l y)))]⟩) (by omega) ?_ (fun i hi hpi => ?_)
    · exact Sub.trans (sub_nil_row (t := 6) (l := 6) 28 1 false rfl rfl) (sub_re (SubT.cons (lk_eq rfl (by first | rfl | simp)) (SubT.cons (lk_eq rfl (by first | rfl | simp)) (SubT.cons (lk_eq rfl (by first | rfl | simp)) (SubT.cons (lk_eq rfl (by first | rfl | simp)) (SubT.cons (lk_eq rfl (by first | rfl | simp)) (SubT.nil)))))) (SubO.cons (ok_eq rfl (by rfl)) (SubO.nil)) rfl rfl (noL' (noL hL) _))
    have hl2 : (bdlDs ((((ansL k (putT l g.l)).take i).filter fun y => decide (bothE l y = 0)).map fun y => bothL l y)).length ≤ k.length := by
      rw [bdlDs_length, List.length_map]; have := filter_take_le (fun y => decide (bothE l y = 0)) (ansL k (putT l g.l)) i; omega
    refine awp_seq ?_; refine awp_region ?_; refine awps_stp0 rfl rfl (by decide) (stp_binI rfl rfl rfl rfl) ?_; refine awps_nil ?_; refine thenQ_nil ?_; refine awp_seq ?_; refine awp_cond rfl (fun c2 => ?_) (fun c2 => ?_)
    · try simp only [↓cqA, cqB] at c2
      obtain ⟨u, hu⟩ := get_of_lt (l := ansL k (putT l g.l)) (k := i) (by omega)
      have hum := hab u (List.mem_of_getElem? hu)
      have hul := ansL_len16 k (putT l g.l) u (List.mem_of_getElem? hu)
      have hfs := filter_snoc (fun y => decide (bothE l y = 0)) hu
      refine awp_skip ?_; refine thenQ_nil ?_; refine awp_seq ?_; refine awp_block ?_; refine awp_seq ?_; refine awp_region ?_; refine awps_stp0 rfl rfl (by decide) (stp_indexAddr rfl sl_S_S_api_Bind rfl rfl (by omega) (bdlDs_get hu)) ?_; refine awps_stp0 rfl rfl (by decide) (stp_load_elp1 rfl tf_S_api_Bind rfl) ?_
      refine awps_stp0 rfl rfl (by decide) (stp_move (.inr rfl) rfl) ?_; refine awps_nil ?_; refine thenQ_nil ?_; refine awp_seq ?_; refine awp_region ?_; refine awps_stp0 rfl rfl (by decide) (stp_move (.inl rfl) rfl) ?_; refine awps_stp0 rfl rfl (by decide) (stp_move (.inl rfl) rfl) ?_
      refine awps_call (avs := [_, _]) false rfl rfl rfl (by decide) en_bind_Both rfl rfl (Both_ok l u hl hum (by omega)) rfl rfl ?_; refine awps_stp0 rfl rfl (by decide) (stp_move (.inl rfl) rfl) ?_; refine awps_stp0 rfl rfl (by decide) (stp_extract rfl rfl rfl) ?_; refine awps_stp0 rfl rfl (by decide) (stp_extract rfl rfl rfl) ?_
      refine awps_stp0 rfl rfl (by decide) (stp_move (.inr rfl) rfl) ?_; refine awps_stp0 rfl rfl (by decide) (stp_move (.inr rfl) rfl) ?_; refine awps_nil ?_; refine thenQ_nil ?_; refine awp_seq ?_; refine awp_region ?_; refine awps_stp0 rfl rfl (by decide) (stp_move (.inl rfl) rfl) ?_; refine awps_stp0 rfl rfl (by decide) (stp_binI rfl rfl rfl rfl) ?_; refine awps_nil ?_; refine thenQ_nil ?_; refine awp_cond rfl (fun c3 => ?_) (fun c3 => ?_)
      · try simp only [↓cqA, cqB] at c3
        have hfe : bdlDs ((((ansL k (putT l g.l)).take (i + 1)).filter fun y => decide (bothE l y = 0)).map fun y => bothL l y) = bdlDs ((((ansL k (putT l g.l)).take i).filter fun y => decide (bothE l y = 0)).map fun y => bothL l y) ++ [[.sl 5 (bdDs (bothL l u))]] := by
          rw [hfs, if_pos (by simp [c3]), List.map_append, ← bdlDs_snoc]; rfl
        refine awp_region ?_; refine awps_stp0 rfl rfl (by decide) (stp_move (.inl rfl) rfl) ?_; refine awps_stp0 rfl rfl (by decide) (stp_move (.inl rfl) rfl) ?_; refine awps_stp1 rfl rfl (by decide) (stp_buildSlice 51 rfl sl_S_S_api_Bind zv_S_api_Bind rfl rfl (by decide) (by decide) (by decide) rfl rfl rfl) rfl ?_; refine awps_u rfl rfl (by decide) (stpU_append1 52 ta_S_S_api_Bind rfl rfl rfl rfl rfl rfl rfl rfl (noL hL _) (by omega) rfl) rfl ?_
        refine awps_sub (sub_rename 52 6 (noL hL _) (noL hL _)) ?_; refine awps_stp0 rfl rfl (by decide) (stp_move (.inr rfl) rfl) ?_; refine awps_nil ?_; refine inQ_nil ?_; refine thenQ_nil ?_; refine awp_region ?_; refine awps_stp0 rfl rfl (by decide) (stp_add rfl rfl rfl (by omega)) ?_; refine awps_stp0 rfl rfl (by decide) (stp_move (.inl rfl) rfl) ?_; refine awps_nil ?_; refine thenQ_nil ?_; refine ⟨?_, ?_, ?_⟩
        · skip
          omega
        · skip
          omega
        exact sub_re (SubT.cons (lk_eq rfl (by first | rfl | simp)) (SubT.cons (lk_eq rfl (by first | rfl | simp)) (SubT.cons (lk_eq rfl (by first | rfl | simp)) (SubT.cons (lk_eq rfl (by first | rfl | simp)) (SubT.cons (lk_eq rfl (by first | rfl | simp)) (SubT.nil)))))) (SubO.cons (ok_eq rfl (by rw [hfe]; try rfl)) (SubO.nil)) rfl rfl (noL' (noL hL) _)
      try simp only [↓cqA, cqB] at c3
      have hfe : bdlDs ((((ansL k (putT l g.l)).take (i + 1)).filter fun y => decide (bothE l y = 0)).map fun y => bothL l y) = bdlDs ((((ansL k (putT l g.l)).take i).filter fun y => decide (bothE l y = 0)).map fun y => bothL l y) := by
        rw [hfs, if_neg (by simp [c3]), List.append_nil]
      refine awp_skip ?_; refine inQ_nil ?_; refine thenQ_nil ?_; refine awp_region ?_; refine awps_stp0 rfl rfl (by decide) (stp_add rfl rfl rfl (by omega)) ?_; refine awps_stp0 rfl rfl (by decide) (stp_move (.inl rfl) rfl) ?_; refine awps_nil ?_; refine thenQ_nil ?_; refine ⟨?_, ?_, ?_⟩
      · skip
        omega
      · skip
        omega
      exact sub_re (SubT.cons (lk_eq rfl (by first | rfl | simp)) (SubT.cons (lk_eq rfl (by first | rfl | simp)) (SubT.cons (lk_eq rfl (by first | rfl | simp)) (SubT.cons (lk_eq rfl (by first | rfl | simp)) (SubT.cons (lk_eq rfl (by first | rfl | simp)) (SubT.nil)))))) (SubO.cons (ok_eq rfl (by rw [hfe]; try rfl)) (SubO.nil)) rfl rfl (noL' (noL hL) _)
    try simp only [↓cqA, cqB] at c2
    refine awp_exit ?_; refine thenQ_exit (thenQ_exit (inQ_hit ?_)); refine thenQ_nil ?_; refine awp_seq ?_; refine awp_sub (sub_freeze (l := 6) rfl (by decide) (noL hL _) rfl rfl) ?_; refine awp_region ?_; refine awps_stp0 rfl rfl (by decide) (stp_move (.inl rfl) rfl) ?_; refine awps_stp0 rfl rfl (by decide) (stp_move (.inr rfl) rfl) ?_; refine awps_nil ?_; refine thenQ_nil ?_; refine awp_ret ?_; refine inQ_ret (thenQ_ret (?_))
    -- leaf 0T1F2F
    refine ret0 (noL hL) (.inl rfl) (resAs_tmp rfl (resAs_nil)) ?_ ?_
    · rfl
    refine ⟨?_, rfl⟩
    unfold behL
    first
      | (rw [if_pos c0, if_neg (by simp [c1])]; exact .inl ⟨rfl, rfl⟩)
      | (have e : (ansL k (putT l g.l)).take i = ansL k (putT l g.l) := List.take_of_length_le (by omega)
         rw [if_pos c0, if_pos c1, e]; exact .inr rfl)
      | (rw [if_neg (by assumption), if_pos (by assumption)]
         first
           | (rw [if_pos (by simp_all)]; exact .inr rfl)
           | (rw [if_neg (by simp_all)]; exact .inl ⟨rfl, rfl⟩))
      | (rw [if_neg (by assumption), if_neg (by assumption)]
         first
           | (rw [if_pos (by simp_all)]; exact .inr rfl)
           | (rw [if_neg (by simp_all)]; exact .inl ⟨rfl, rfl⟩))
      | trace_state
  try simp only [↓cqA, cqB] at c0
  refine awp_seq ?_; refine awp_region ?_; refine awps_stp0 rfl rfl (by decide) (stp_binI rfl rfl rfl rfl) ?_; refine awps_stp0 rfl rfl (by decide) (stp_move (.inr rfl) rfl) ?_; refine awps_nil ?_; refine thenQ_nil ?_; refine awp_cond rfl (fun c4 => ?_) (fun c4 => ?_)
  · try simp only [↓cqA, cqB] at c4
    refine awp_seq ?_; refine awp_region ?_; refine awps_stp0 rfl rfl (by decide) (stp_load_all rfl tf_api_Term rfl rfl rfl rfl) ?_; refine awps_call (avs := [_]) true rfl rfl rfl (by decide) en_term_May rfl rfl (May_ok (putT l g.l) p1) rfl rfl ?_; refine awps_stp0 rfl rfl (by decide) (stp_not rfl rfl) ?_; refine awps_stp0 rfl rfl (by decide) (stp_move (.inl rfl) rfl) ?_; refine awps_split 60 rfl (fun g60 => ?_) (fun g60 => ?_)
    · try simp only [↓cqA, cqB] at g60
      refine awps_gs rfl rfl rfl rfl (by decide) rfl (by decide) ?_; refine awps_gs rfl rfl rfl rfl (by decide) rfl (by decide) ?_; refine awps_gs rfl rfl rfl rfl (by decide) rfl (by decide) ?_; refine awps_stp0 rfl rfl (by decide) (stp_pick rfl rfl rfl) ?_; refine awps_stp0 rfl rfl (by decide) (stp_move (.inl rfl) rfl) ?_; refine awps_gs rfl rfl rfl rfl (by decide) rfl (by decide) ?_
      refine awps_gs rfl rfl rfl rfl (by decide) rfl (by decide) ?_; refine awps_gu rfl rfl rfl (by decide) rfl (by decide) ?_; refine awps_gu rfl rfl rfl (by decide) rfl (by decide) ?_; refine awps_gu rfl rfl rfl (by decide) rfl (by decide) ?_; refine awps_gu rfl rfl rfl (by decide) rfl (by decide) ?_; refine awps_gu rfl rfl rfl (by decide) rfl (by decide) ?_
      refine awps_gs rfl rfl rfl rfl (by decide) rfl (by decide) ?_; refine awps_stp0 rfl rfl (by decide) (stp_pick rfl rfl rfl) ?_; refine awps_nil ?_; refine thenQ_nil ?_; refine awp_condT rfl ?_; refine awp_seq ?_; refine awp_region ?_; refine awps_stp0 rfl rfl (by decide) (stp_move (.inr rfl) rfl) ?_; refine awps_nil ?_; refine thenQ_nil ?_; refine awp_ret ?_; refine inQ_ret (thenQ_ret (?_))
      -- leaf 0F4Tg60T
      refine ret0 (noL hL) (.inl rfl) (resAs_tmp rfl (resAs_nil)) ?_ ?_
      · rfl
      refine ⟨?_, rfl⟩
      unfold behL
      first
        | (rw [if_pos c0, if_neg (by simp [c1])]; exact .inl ⟨rfl, rfl⟩)
        | (have e : (ansL k (putT l g.l)).take i = ansL k (putT l g.l) := List.take_of_length_le (by omega)
           rw [if_pos c0, if_pos c1, e]; exact .inr rfl)
        | (rw [if_neg (by assumption), if_pos (by assumption)]
           first
             | (rw [if_pos (by simp_all)]; exact .inr rfl)
             | (rw [if_neg (by simp_all)]; exact .inl ⟨rfl, rfl⟩))
        | (rw [if_neg (by assumption), if_neg (by assumption)]
           first
             | (rw [if_pos (by simp_all)]; exact .inr rfl)
             | (rw [if_neg (by simp_all)]; exact .inl ⟨rfl, rfl⟩))
        | trace_state
    try simp only [↓cqA, cqB] at g60
    refine awps_g0 rfl rfl rfl (by decide) rfl (by decide) (stp_load_all rfl tf_api_Term rfl rfl rfl rfl) ?_; refine awps_g0 rfl rfl rfl (by decide) rfl (by decide) (stp_call (avs := [_]) true rfl en_term_Is rfl rfl (Is_ok (putT l g.l) p1 (by assumption)) (fun _ => rfl) rfl) ?_; refine awps_g0 rfl rfl rfl (by decide) rfl (by decide) (stp_not rfl rfl) ?_; refine awps_stp0 rfl rfl (by decide) (stp_pick rfl rfl rfl) ?_; refine awps_stp0 rfl rfl (by decide) (stp_move (.inl rfl) rfl) ?_; refine awps_split 65 rfl (fun g65 => ?_) (fun g65 => ?_)
    · try simp only [↓cqA, cqB] at g65
      refine awps_gs rfl rfl rfl rfl (by decide) rfl (by decide) ?_; refine awps_gs rfl rfl rfl rfl (by decide) rfl (by decide) ?_; refine awps_gu rfl rfl rfl (by decide) rfl (by decide) ?_; refine awps_gu rfl rfl rfl (by decide) rfl (by decide) ?_; refine awps_gu rfl rfl rfl (by decide) rfl (by decide) ?_; refine awps_gu rfl rfl rfl (by decide) rfl (by decide) ?_
      refine awps_gu rfl rfl rfl (by decide) rfl (by decide) ?_; refine awps_gs rfl rfl rfl rfl (by decide) rfl (by decide) ?_; refine awps_stp0 rfl rfl (by decide) (stp_pick rfl rfl rfl) ?_; refine awps_nil ?_; refine thenQ_nil ?_; refine awp_condT rfl ?_; refine awp_seq ?_; refine awp_region ?_; refine awps_stp0 rfl rfl (by decide) (stp_move (.inr rfl) rfl) ?_; refine awps_nil ?_; refine thenQ_nil ?_; refine awp_ret ?_; refine inQ_ret (thenQ_ret (?_))
      -- leaf 0F4Tg60Fg65T
      refine ret0 (noL hL) (.inl rfl) (resAs_tmp rfl (resAs_nil)) ?_ ?_
      · rfl
      refine ⟨?_, rfl⟩
      unfold behL
      first
        | (rw [if_pos c0, if_neg (by simp [c1])]; exact .inl ⟨rfl, rfl⟩)
        | (have e : (ansL k (putT l g.l)).take i = ansL k (putT l g.l) := List.take_of_length_le (by omega)
           rw [if_pos c0, if_pos c1, e]; exact .inr rfl)
        | (rw [if_neg (by assumption), if_pos (by assumption)]
           first
             | (rw [if_pos (by simp_all)]; exact .inr rfl)
             | (rw [if_neg (by simp_all)]; exact .inl ⟨rfl, rfl⟩))
        | (rw [if_neg (by assumption), if_neg (by assumption)]
           first
             | (rw [if_pos (by simp_all)]; exact .inr rfl)
             | (rw [if_neg (by simp_all)]; exact .inl ⟨rfl, rfl⟩))
        | trace_state
    try simp only [↓cqA, cqB] at g65
    refine awps_g0 rfl rfl rfl (by decide) rfl (by decide) (stp_move (.inl rfl) rfl) ?_; refine awps_g0 rfl rfl rfl (by decide) rfl (by decide) (stp_move (.inl rfl) rfl) ?_; refine awps_split 67 rfl (fun g67 => ?_) (fun g67 => ?_)
    · try simp only [↓cqA, cqB] at g67
      refine awps_g0 rfl rfl rfl (by decide) rfl (by decide) (stp_move (.inl rfl) rfl) ?_; refine awps_g0 rfl rfl rfl (by decide) rfl (by decide) (stp_load_all rfl tf_api_Term rfl rfl rfl rfl) ?_; refine awps_g0 rfl rfl rfl (by decide) rfl (by decide) (stp_call (avs := [_, _]) false rfl en_known_Answers rfl rfl (Answers_ok k hkl hk (putT l g.l) p1 (by assumption)) (fun _ => rfl) rfl) ?_; refine awps_g0 rfl rfl rfl (by decide) rfl (by decide) (stp_len_dat rfl sl_S_S_api_Bind rfl) ?_
      refine awps_g0 rfl rfl rfl (by decide) rfl (by decide) (stp_binI rfl rfl rfl rfl) ?_; refine awps_g0 rfl rfl rfl (by decide) rfl (by decide) (stp_pick rfl rfl rfl) ?_; refine awps_stp0 rfl rfl (by decide) (stp_pick rfl rfl rfl) ?_; refine awps_nil ?_; refine thenQ_nil ?_; refine awp_cond rfl (fun c5 => ?_) (fun c5 => ?_)
      · try simp only [↓cqA, cqB] at c5
        refine awp_seq ?_; refine awp_region ?_; refine awps_stp0 rfl rfl (by decide) (stp_move (.inr rfl) rfl) ?_; refine awps_nil ?_; refine thenQ_nil ?_; refine awp_ret ?_; refine inQ_ret (thenQ_ret (?_))
        -- leaf 0F4Tg60Fg65Fg67T5T
        refine ret0 (noL hL) (.inl rfl) (resAs_tmp rfl (resAs_nil)) ?_ ?_
        · rfl
        refine ⟨?_, rfl⟩
        unfold behL
        first
          | (rw [if_pos c0, if_neg (by simp [c1])]; exact .inl ⟨rfl, rfl⟩)
          | (have e : (ansL k (putT l g.l)).take i = ansL k (putT l g.l) := List.take_of_length_le (by omega)
             rw [if_pos c0, if_pos c1, e]; exact .inr rfl)
          | (rw [if_neg (by assumption), if_pos (by assumption)]
             first
               | (rw [if_pos (by simp_all)]; exact .inr rfl)
               | (rw [if_neg (by simp_all)]; exact .inl ⟨rfl, rfl⟩))
          | (rw [if_neg (by assumption), if_neg (by assumption)]
             first
               | (rw [if_pos (by simp_all)]; exact .inr rfl)
               | (rw [if_neg (by simp_all)]; exact .inl ⟨rfl, rfl⟩))
          | trace_state
      try simp only [↓cqA, cqB] at c5
      refine awp_skip ?_; refine inQ_nil ?_; refine thenQ_nil ?_; refine awp_seq ?_; refine awp_region ?_; refine awps_stp0 rfl rfl (by decide) (stp_move (.inl rfl) rfl) ?_; refine awps_stp1 rfl rfl (by decide) (stp_buildSlice 76 rfl sl_S_S_api_Bind zv_S_api_Bind rfl rfl (by decide) (by decide) (by decide) rfl rfl rfl) rfl ?_; refine awps_rowd 76 false 1 rfl rfl rfl rfl ?_; refine awps_sub (sub_freeze (l := 76) rfl (by decide) (noL hL _) rfl rfl) ?_; refine awps_stp0 rfl rfl (by decide) (stp_move (.inr rfl) rfl) ?_; refine awps_nil ?_; refine thenQ_nil ?_; refine awp_ret ?_
      -- leaf 0F4Tg60Fg65Fg67T5F
      refine ret0 (noL hL) (.inl rfl) (resAs_tmp rfl (resAs_nil)) ?_ ?_
      · rfl
      refine ⟨?_, rfl⟩
      unfold behL
      first
        | (rw [if_pos c0, if_neg (by simp [c1])]; exact .inl ⟨rfl, rfl⟩)
        | (have e : (ansL k (putT l g.l)).take i = ansL k (putT l g.l) := List.take_of_length_le (by omega)
           rw [if_pos c0, if_pos c1, e]; exact .inr rfl)
        | (rw [if_neg (by assumption), if_pos (by assumption)]
           first
             | (rw [if_pos (by simp_all)]; exact .inr rfl)
             | (rw [if_neg (by simp_all)]; exact .inl ⟨rfl, rfl⟩))
        | (rw [if_neg (by assumption), if_neg (by assumption)]
           first
             | (rw [if_pos (by simp_all)]; exact .inr rfl)
             | (rw [if_neg (by simp_all)]; exact .inl ⟨rfl, rfl⟩))
        | trace_state
    try simp only [↓cqA, cqB] at g67
    refine awps_gs rfl rfl rfl rfl (by decide) rfl (by decide) ?_; refine awps_gs rfl rfl rfl rfl (by decide) rfl (by decide) ?_; refine awps_gs rfl rfl rfl rfl (by decide) rfl (by decide) ?_; refine awps_gs rfl rfl rfl rfl (by decide) rfl (by decide) ?_; refine awps_gs rfl rfl rfl rfl (by decide) rfl (by decide) ?_
    refine awps_g0 rfl rfl rfl (by decide) rfl (by decide) (stp_pick rfl rfl rfl) ?_; refine awps_stp0 rfl rfl (by decide) (stp_pick rfl rfl rfl) ?_; refine awps_nil ?_; refine thenQ_nil ?_; refine awp_condF rfl ?_; refine awp_skip ?_; refine inQ_nil ?_; refine thenQ_nil ?_; refine awp_seq ?_; refine awp_region ?_; refine awps_stp0 rfl rfl (by decide) (stp_move (.inl rfl) rfl) ?_
    refine awps_stp1 rfl rfl (by decide) (stp_buildSlice 76 rfl sl_S_S_api_Bind zv_S_api_Bind rfl rfl (by decide) (by decide) (by decide) rfl rfl rfl) rfl ?_; refine awps_rowd 76 false 1 rfl rfl rfl rfl ?_; refine awps_sub (sub_freeze (l := 76) rfl (by decide) (noL hL _) rfl rfl) ?_; refine awps_stp0 rfl rfl (by decide) (stp_move (.inr rfl) rfl) ?_; refine awps_nil ?_; refine thenQ_nil ?_; refine awp_ret ?_
    -- leaf 0F4Tg60Fg65Fg67F
    refine ret0 (noL hL) (.inl rfl) (resAs_tmp rfl (resAs_nil)) ?_ ?_
    · rfl
    refine ⟨?_, rfl⟩
    unfold behL
    first
      | (rw [if_pos c0, if_neg (by simp [c1])]; exact .inl ⟨rfl, rfl⟩)
      | (have e : (ansL k (putT l g.l)).take i = ansL k (putT l g.l) := List.take_of_length_le (by omega)
         rw [if_pos c0, if_pos c1, e]; exact .inr rfl)
      | (rw [if_neg (by assumption), if_pos (by assumption)]
         first
           | (rw [if_pos (by simp_all)]; exact .inr rfl)
           | (rw [if_neg (by simp_all)]; exact .inl ⟨rfl, rfl⟩))
      | (rw [if_neg (by assumption), if_neg (by assumption)]
         first
           | (rw [if_pos (by simp_all)]; exact .inr rfl)
           | (rw [if_neg (by simp_all)]; exact .inl ⟨rfl, rfl⟩))
      | trace_state
  try simp only [↓cqA, cqB] at c4
  refine awp_seq ?_
  have hmr : mayT g.r = true := by
    simp only [okG, cmpsB, Bool.or_eq_true, Bool.and_eq_true, decide_eq_true_eq] at ho
    rcases ho with h | h
    · exact h.2
    · rcases h.1.1 with h | h
      · exact absurd h (by assumption)
      · exact absurd h (by assumption)
  refine awp_region ?_; refine awps_stp0 rfl rfl (by decide) (stp_move (.inl rfl) rfl) ?_; refine awps_stp0 rfl rfl (by decide) (stp_load_all rfl tf_api_Guard rfl rfl rfl rfl) ?_; refine awps_call (avs := [_, _]) true rfl rfl rfl (by decide) en_guard_compared rfl rfl (compared_ok l hl g hg hml hmr) rfl rfl ?_; refine awps_stp0 rfl rfl (by decide) (stp_not rfl rfl) ?_; refine awps_nil ?_; refine thenQ_nil ?_; refine awp_cond rfl (fun c6 => ?_) (fun c6 => ?_)
  · try simp only [↓cqA, cqB] at c6
    refine awp_seq ?_; refine awp_region ?_; refine awps_stp0 rfl rfl (by decide) (stp_move (.inr rfl) rfl) ?_; refine awps_nil ?_; refine thenQ_nil ?_; refine awp_ret ?_; refine inQ_ret (thenQ_ret (?_))
    -- leaf 0F4F6T
    refine ret0 (noL hL) (.inl rfl) (resAs_tmp rfl (resAs_nil)) ?_ ?_
    · rfl
    refine ⟨?_, rfl⟩
    unfold behL
    first
      | (rw [if_pos c0, if_neg (by simp [c1])]; exact .inl ⟨rfl, rfl⟩)
      | (have e : (ansL k (putT l g.l)).take i = ansL k (putT l g.l) := List.take_of_length_le (by omega)
         rw [if_pos c0, if_pos c1, e]; exact .inr rfl)
      | (rw [if_neg (by assumption), if_pos (by assumption)]
         first
           | (rw [if_pos (by simp_all)]; exact .inr rfl)
           | (rw [if_neg (by simp_all)]; exact .inl ⟨rfl, rfl⟩))
      | (rw [if_neg (by assumption), if_neg (by assumption)]
         first
           | (rw [if_pos (by simp_all)]; exact .inr rfl)
           | (rw [if_neg (by simp_all)]; exact .inl ⟨rfl, rfl⟩))
      | trace_state
  try simp only [↓cqA, cqB] at c6
  refine awp_skip ?_; refine inQ_nil ?_; refine thenQ_nil ?_; refine awp_seq ?_; refine awp_region ?_; refine awps_stp0 rfl rfl (by decide) (stp_move (.inl rfl) rfl) ?_; refine awps_stp1 rfl rfl (by decide) (stp_buildSlice 76 rfl sl_S_S_api_Bind zv_S_api_Bind rfl rfl (by decide) (by decide) (by decide) rfl rfl rfl) rfl ?_; refine awps_rowd 76 false 1 rfl rfl rfl rfl ?_; refine awps_sub (sub_freeze (l := 76) rfl (by decide) (noL hL _) rfl rfl) ?_; refine awps_stp0 rfl rfl (by decide) (stp_move (.inr rfl) rfl) ?_; refine awps_nil ?_; refine thenQ_nil ?_; refine awp_ret ?_
  -- leaf 0F4F6F
  refine ret0 (noL hL) (.inl rfl) (resAs_tmp rfl (resAs_nil)) ?_ ?_
  · rfl
  refine ⟨?_, rfl⟩
  unfold behL
  first
    | (rw [if_pos c0, if_neg (by simp [c1])]; exact .inl ⟨rfl, rfl⟩)
    | (have e : (ansL k (putT l g.l)).take i = ansL k (putT l g.l) := List.take_of_length_le (by omega)
       rw [if_pos c0, if_pos c1, e]; exact .inr rfl)
    | (rw [if_neg (by assumption), if_pos (by assumption)]
       first
         | (rw [if_pos (by simp_all)]; exact .inr rfl)
         | (rw [if_neg (by simp_all)]; exact .inl ⟨rfl, rfl⟩))
    | (rw [if_neg (by assumption), if_neg (by assumption)]
       first
         | (rw [if_pos (by simp_all)]; exact .inr rfl)
         | (rw [if_neg (by simp_all)]; exact .inl ⟨rfl, rfl⟩))
    | trace_state
def allStep (k : List Tm) (X : List (List Bd)) (g : Gd) : List (List Bd) := onceL (X.flatMap fun b => behL k b g)
def allX (k : List Tm) (l : List Bd) (gs : List Gd) : List (List Bd) := gs.foldl (allStep k) [l]
theorem allX_snoc (k : List Tm) (l : List Bd) {gs : List Gd} {i : Nat} {g : Gd} (hg : gs[i]? = some g) : allX k l (gs.take (i + 1)) = allStep k (allX k l (gs.take i)) g := by
  rw [take_snoc hg, allX, List.foldl_append]; rfl
theorem onceL_mem : ∀ (l x : List (List Bd)) (y : List Bd), y ∈ l.foldl onceS x → y ∈ x ∨ y ∈ l
  | [], x, y, h => .inl h
  | a :: l, x, y, h => by
    rcases onceL_mem l (onceS x a) y h with h | h
    · unfold onceS at h
      split at h
      · exact .inl h
      · rcases List.mem_append.1 h with h | h
        · exact .inl h
        · exact .inr (by rw [List.mem_singleton.1 h]; simp)
    · exact .inr (List.mem_cons_of_mem _ h)
theorem bothL_len16 (a b : List Bd) : (bothL a b).length ≤ 16 := by
  unfold bothL
  split
  · rename_i h; exact h.2
  · simp
theorem behL_len16 (k : List Tm) (l : List Bd) (g : Gd) (hl : l.length ≤ 16) : ∀ y ∈ behL k l g, y.length ≤ 16 := fun y hy => by
  unfold behL at hy
  split at hy
  · split at hy
    · obtain ⟨z, _, rfl⟩ := List.mem_map.1 hy; exact bothL_len16 l z
    · cases hy
  · split at hy <;> split at hy <;> first | (rw [List.mem_singleton.1 hy]; exact hl) | cases hy
theorem allX_all {k : List Tm} (hk : ∀ t ∈ k, t.wf ∧ mayT t = true) {l : List Bd} (hl : BOk l) (hl2 : l.length ≤ 16) : ∀ (gs : List Gd) (X : List (List Bd)), (∀ g ∈ gs, g.wf) → (∀ y ∈ X, BOk y ∧ y.length ≤ 16) → ∀ y ∈ gs.foldl (allStep k) X, BOk y ∧ y.length ≤ 16
  | [], X, _, h => h
  | g :: gs, X, hg, h => allX_all hk hl hl2 gs (allStep k X g) (fun g' hg' => hg g' (by simp [hg'])) fun y hy => by
    rcases onceL_mem _ _ y hy with hy | hy
    · cases hy
    · obtain ⟨b, hb, hy⟩ := List.mem_flatMap.1 hy
      exact ⟨behL_bok hk (h b hb).1 (hg g (by simp)) y hy, behL_len16 k b g (h b hb).2 y hy⟩
theorem flatMap_len {α β : Type} (f : α → List β) (m : Nat) : ∀ (l : List α), (∀ a ∈ l, (f a).length ≤ m) → (l.flatMap f).length ≤ l.length * m
  | [], _ => by simp
  | a :: l, h => by
    have := flatMap_len f m l fun b hb => h b (by simp [hb])
    have := h a (by simp)
    rw [List.flatMap_cons, List.length_append, List.length_cons, Nat.succ_mul]; omega
def allOk (k : List Tm) (l : List Bd) (gs : List Gd) : Bool := (List.range gs.length).all fun i => decide ((allX k l (gs.take (i + 1))).length ≤ 1000)
def allL (k : List Tm) (l : List Bd) (gs : List Gd) : List (List Bd) := if allOk k l gs = true then allX k l gs else []
def allE (k : List Tm) (l : List Bd) (gs : List Gd) : Int := if allOk k l gs = true then 0 else 2
end Go.Proofs.YtdecgkhdbfgldaaGreat

set_option linter.unusedVariables false
set_option linter.unusedSimpArgs false
set_option maxRecDepth 8000
namespace Go.Proofs.YtdecgkhdbfgldaaGreat
open Go
theorem All_ok (k : List Tm) (hkl : k.length ≤ 60) (hk : ∀ t ∈ k, t.wf ∧ mayT t = true) (l : List Bd) (hl : BOk l) (hl16 : l.length ≤ 16) (gs : List Gd) (hg : ∀ g ∈ gs, g.wf ∧ okG g = true) (hgl : gs.length ≤ 4) :
    AC Tryz.prog 111 [.dat false 4 (tmDs k), bdA l, .dat false 9 (gdDs gs)] [] (fun r O => r = .tup [.row 8, iv (allE k l gs)] ∧ O = [(8, .rowd 28 1 false (bdlDs (allL k l gs)))]) := by
  have hlg := gdDs_length gs
  have hlk := tmDs_length k
  have hX0 : ∀ j, j ≤ 0 → (allX k l (gs.take j)).length ≤ 1000 := fun j hj => by
    have : j = 0 := by omega
    subst this; rw [List.take_zero]; simp [allX]
  refine AC_intro Tryz.func111 rfl Tryz.ntmps111 (Nat.le_of_ble_eq_true rfl) fun c hL hQ hDD => ?_; refine awp_seq ?_; refine awp_region ?_; refine awps_stp0 rfl rfl (by decide) (stp_move (.inr rfl) rfl) ?_; refine awps_stp0 rfl rfl (by decide) (stp_move (.inr rfl) rfl) ?_; refine awps_nil ?_; refine thenQ_nil ?_; refine awp_seq ?_; refine awp_region ?_
  refine awps_stp0 rfl rfl (by decide) (stp_move (.inl rfl) rfl) ?_; refine awps_stp1 rfl rfl (by decide) (stp_buildSlice 15 rfl sl_S_S_api_Bind zv_S_api_Bind rfl rfl (by decide) (by decide) (by decide) rfl rfl rfl) rfl ?_; refine awps_rowd 15 false 1 rfl rfl rfl rfl ?_; refine awps_stp0 rfl rfl (by decide) (stp_move (.inr rfl) rfl) ?_; refine awps_nil ?_; refine thenQ_nil ?_; refine awp_seq ?_; refine awp_seq ?_; refine awp_region ?_; refine awps_stp0 rfl rfl (by decide) (stp_move (.inl rfl) rfl) ?_; refine awps_stp0 rfl rfl (by decide) (stp_len_dat rfl sl_S_api_Guard rfl) ?_
  refine awps_stp0 rfl rfl (by decide) (stp_move (.inl rfl) rfl) ?_; refine awps_nil ?_; refine thenQ_nil ?_; refine awp_block ?_; refine awp_while (gs.length) (fun i => i ≤ gs.length ∧ ∀ j, j ≤ i → (allX k l (gs.take j)).length ≤ 1000) (fun i => ⟨[(0, .dat false 4 (tmDs k)), (8, .row 8), (16, .dat false 9 (gdDs gs)), (17, iv (gdDs gs).length), (18, iv (i : Int))], [(8, .rowd 28 1 false (bdlDs (allX k l (gs.take i))))]⟩) (⟨by omega, hX0⟩) ?_ (fun i hi hpi => ?_)
  · exact Sub.trans (sub_rename 15 8 (noL hL _) (noL hL _)) (sub_re (SubT.cons (lk_eq rfl (by first | rfl | simp)) (SubT.cons (lk_eq rfl (by first | rfl | simp)) (SubT.cons (lk_eq rfl (by first | rfl | simp)) (SubT.cons (lk_eq rfl (by first | rfl | simp)) (SubT.cons (lk_eq rfl (by first | rfl | simp)) (SubT.nil)))))) (SubO.cons (ok_eq rfl (by rfl)) (SubO.nil)) rfl rfl (noL' (noL hL) _))
  have hXl := hpi.2 i (Nat.le_refl _)
  have hXa : ∀ y ∈ allX k l (gs.take i), BOk y ∧ y.length ≤ 16 := allX_all hk hl hl16 (gs.take i) [l] (fun g hgm => (hg g (List.mem_of_mem_take hgm)).1) (fun y hy => by rw [List.mem_singleton.1 hy]; exact ⟨hl, hl16⟩)
  have hXd := bdlDs_length (allX k l (gs.take i))
  generalize hX : allX k l (gs.take i) = X at *
  refine awp_seq ?_; refine awp_region ?_; refine awps_stp0 rfl rfl (by decide) (stp_binI rfl rfl rfl rfl) ?_; refine awps_nil ?_; refine thenQ_nil ?_; refine awp_seq ?_; refine awp_cond rfl (fun c0 => ?_) (fun c0 => ?_)
  · try simp only [↓cqA, cqB] at c0
    obtain ⟨g, hgi⟩ := get_of_lt (l := gs) (k := i) (by omega)
    have hgm := hg g (List.mem_of_getElem? hgi)
    have hXs := allX_snoc k l hgi
    rw [hX] at hXs
    refine awp_skip ?_; refine thenQ_nil ?_; refine awp_seq ?_; refine awp_block ?_; refine awp_seq ?_; refine awp_region ?_; refine awps_stp0 rfl rfl (by decide) (stp_indexAddr rfl sl_S_api_Guard rfl rfl (by omega) (gdDs_get hgi)) ?_; refine awps_stp0 rfl rfl (by decide) (stp_load_elpa rfl tf_api_Guard rfl rfl) ?_
    refine awps_stp1 rfl rfl (by decide) (stp_alloc 10 rfl zv_api_Guard rfl) rfl ?_; refine awps_store rfl rfl rfl tf_api_Guard rfl rfl rfl rfl rfl rfl rfl rfl rfl ?_; refine awps_nil ?_; refine thenQ_nil ?_; refine awp_seq ?_; refine awp_region ?_; refine awps_stp0 rfl rfl (by decide) (stp_move (.inr rfl) rfl) ?_; refine awps_nil ?_; refine thenQ_nil ?_; refine awp_seq ?_; refine awp_seq ?_; refine awp_region ?_; refine awps_stp0 rfl rfl (by decide) (stp_move (.inl rfl) rfl) ?_; refine awps_stp0 rfl rfl (by decide) (stp_len_rowd rfl sl_S_S_api_Bind rfl rfl) ?_
    refine awps_stp0 rfl rfl (by decide) (stp_move (.inl rfl) rfl) ?_; refine awps_nil ?_; refine thenQ_nil ?_; refine awp_block ?_; refine awp_while (X.length) (fun j => j ≤ X.length) (fun j => ⟨[(0, .dat false 4 (tmDs k)), (10, .ptr 10 0), (11, .row 11), (16, .dat false 9 (gdDs gs)), (17, iv (gdDs gs).length), (18, iv (i : Int)), (22, .row 8), (23, iv (bdlDs X).length), (24, iv (j : Int))], [(8, .rowd 28 1 false (bdlDs X)), (10, .box (lift false (gdD g))), (11, .rowd 28 1 false (bdlDs ((X.take j).flatMap fun b => behL k b g)))]⟩) (by omega) ?_ (fun j hj hpj => ?_)
    · exact Sub.trans (sub_nil_row (t := 11) (l := 11) 28 1 false rfl rfl) (sub_re (SubT.cons (lk_eq rfl (by first | rfl | simp)) (SubT.cons (lk_eq rfl (by first | rfl | simp)) (SubT.cons (lk_eq rfl (by first | rfl | simp)) (SubT.cons (lk_eq rfl (by first | rfl | simp)) (SubT.cons (lk_eq rfl (by first | rfl | simp)) (SubT.cons (lk_eq rfl (by first | rfl | simp)) (SubT.cons (lk_eq rfl (by first | rfl | simp)) (SubT.cons (lk_eq rfl (by first | rfl | simp)) (SubT.cons (lk_eq rfl (by first | rfl | simp)) (SubT.nil)))))))))) (SubO.cons (ok_eq rfl (by rfl)) (SubO.cons (ok_eq rfl (by rfl)) (SubO.cons (ok_eq rfl (by rfl)) (SubO.nil)))) rfl rfl (noL' (noL hL) _))
    have hml : ((X.take j).flatMap fun b => behL k b g).length ≤ 62000 := by
      have h1 := flatMap_len (fun b => behL k b g) 61 (X.take j) fun b _ => by have := behL_len k b g; omega
      have h2 : (X.take j).length ≤ 1000 := by simp; omega
      have h3 : (X.take j).length * 61 ≤ 1000 * 61 := Nat.mul_le_mul_right _ h2
      omega
    have hmd := bdlDs_length ((X.take j).flatMap fun b => behL k b g)
    refine awp_seq ?_; refine awp_region ?_; refine awps_stp0 rfl rfl (by decide) (stp_binI rfl rfl rfl rfl) ?_; refine awps_nil ?_; refine thenQ_nil ?_; refine awp_seq ?_; refine awp_cond rfl (fun c1 => ?_) (fun c1 => ?_)
    · try simp only [↓cqA, cqB] at c1
      obtain ⟨b, hb⟩ := get_of_lt (l := X) (k := j) (by omega)
      have hbm := hXa b (List.mem_of_getElem? hb)
      have hbl := behL_len k b g
      have hbd := bdlDs_length (behL k b g)
      refine awp_skip ?_; refine thenQ_nil ?_; refine awp_seq ?_; refine awp_block ?_; refine awp_seq ?_; refine awp_region ?_; refine awps_stp0 rfl rfl (by decide) (stp_indexAddr_rowd rfl sl_S_S_api_Bind rfl rfl rfl (by omega) (by rw [hXd]; omega)) ?_
      refine awps_stp0 rfl rfl (by decide) (stp_load_rowdi j 0 rfl tf_S_api_Bind rfl rfl (by simp) (bdlDs_get hb) rfl rfl rfl) ?_; refine awps_stp0 rfl rfl (by decide) (stp_move (.inr rfl) rfl) ?_; refine awps_nil ?_; refine thenQ_nil ?_; refine awp_region ?_; refine awps_stp0 rfl rfl (by decide) (stp_move (.inl rfl) rfl) ?_; refine awps_stp0 rfl rfl (by decide) (stp_move (.inl rfl) rfl) ?_; refine awps_stp0 rfl rfl (by decide) (stp_move (.inl rfl) rfl) ?_; refine awps_stp0 rfl rfl (by decide) (stp_load_all rfl tf_api_Guard rfl rfl rfl rfl) ?_
      refine awps_call (avs := [_, _, _]) false rfl rfl rfl (by decide) en_guard_behind rfl rfl (behind_ok k hkl hk b hbm.1 hbm.2 g hgm.1 hgm.2) rfl rfl ?_; refine awps_u rfl rfl (by decide) (stpU_appendd 33 ta_S_S_api_Bind rfl rfl rfl rfl rfl (noL hL _) (bdlDs_k _) (by rw [hmd, hbd]; omega) rfl) rfl ?_
      refine awps_stp0 rfl rfl (by decide) (stp_move (.inr rfl) rfl) ?_; refine awps_nil ?_; refine inQ_nil ?_; refine thenQ_nil ?_; refine awp_region ?_; refine awps_stp0 rfl rfl (by decide) (stp_add rfl rfl rfl (by omega)) ?_; refine awps_stp0 rfl rfl (by decide) (stp_move (.inl rfl) rfl) ?_; refine awps_nil ?_; refine thenQ_nil ?_; refine ⟨?_, ?_, ?_⟩
      · skip
        omega
      · skip
        omega
      exact Sub.trans (sub_rename 33 11 (noL hL _) (noL hL _)) (sub_re (SubT.cons (lk_eq rfl (by first | rfl | simp)) (SubT.cons (lk_eq rfl (by first | rfl | simp)) (SubT.cons (lk_eq rfl (by first | rfl | simp)) (SubT.cons (lk_eq rfl (by first | rfl | simp)) (SubT.cons (lk_eq rfl (by first | rfl | simp)) (SubT.cons (lk_eq rfl (by first | rfl | simp)) (SubT.cons (lk_eq rfl (by first | rfl | simp)) (SubT.cons (lk_eq rfl (by first | rfl | simp)) (SubT.cons (lk_eq rfl (by first | rfl | simp)) (SubT.nil)))))))))) (SubO.cons (ok_eq rfl (by rfl)) (SubO.cons (ok_eq rfl (by rfl)) (SubO.cons (ok_eq rfl (by rw [take_snoc hb, List.flatMap_append, bdlDs_app]; simp only [List.flatMap_cons, List.flatMap_nil, List.append_nil]; rfl)) (SubO.nil)))) rfl rfl (noL' (noL hL) _))
    try simp only [↓cqA, cqB] at c1
    refine awp_exit ?_; refine thenQ_exit (thenQ_exit (inQ_hit ?_)); refine thenQ_nil ?_; refine awp_seq ?_; refine awp_sub (sub_freeze (l := 11) rfl (by decide) (noL hL _) rfl rfl) ?_
    have hjl : X.take j = X := List.take_of_length_le (by omega)
    rw [hjl]
    rw [hjl] at hml
    have hbe := bdlDs_length (onceL (X.flatMap fun b => behL k b g))
    have hbk : ∀ y ∈ X.flatMap fun b => behL k b g, BOk y := fun y hy => by
      obtain ⟨b, hb, hy⟩ := List.mem_flatMap.1 hy; exact behL_bok hk (hXa b hb).1 hgm.1 y hy
    refine awp_region ?_; refine awps_stp0 rfl rfl (by decide) (stp_move (.inl rfl) rfl) ?_; refine awps_callP (avs := [_]) false rfl rfl rfl (by decide) en_guard_once rfl rfl (once_ok (X.flatMap fun b => behL k b g) (by omega) hbk) (rfl) (passO .nil) (by rintro r O' ⟨_, rfl⟩; exact frB rfl) (by rintro h; cases h) ?_
    rintro r O' ⟨rfl, rfl⟩
    refine awps_stp0 rfl rfl (by decide) (stp_move (.inr rfl) rfl) ?_; refine awps_nil ?_; refine thenQ_nil ?_; refine awp_seq ?_; refine awp_region ?_; refine awps_stp0 rfl rfl (by decide) (stp_move (.inl rfl) rfl) ?_; refine awps_stp0 rfl rfl (by decide) (stp_len_rowd rfl sl_S_S_api_Bind rfl rfl) ?_; refine awps_stp0 rfl rfl (by decide) (stp_binI rfl rfl rfl rfl) ?_; refine awps_nil ?_; refine thenQ_nil ?_; refine awp_cond rfl (fun c2 => ?_) (fun c2 => ?_)
    · try simp only [↓cqA, cqB] at c2
      have hbad : allOk k l gs = false := List.all_eq_false.2 ⟨i, List.mem_range.2 (by omega), by
        rw [hXs]; intro h; have h2 := of_decide_eq_true h; simp only [allStep] at h2; omega⟩
      refine awp_seq ?_; refine awp_region ?_; refine awps_stp0 rfl rfl (by decide) (stp_move (.inr rfl) rfl) ?_; refine awps_stp0 rfl rfl (by decide) (stp_move (.inr rfl) rfl) ?_; refine awps_sub (sub_nil_row (t := 6) (l := 300) 28 1 false rfl rfl) ?_; refine awps_sub (sub_rename 300 8 (noL hL _) (noL hL _)) ?_; refine awps_nil ?_; refine thenQ_nil ?_; refine awp_ret ?_; refine inQ_ret (thenQ_ret (thenQ_ret (inQ_ret (thenQ_ret (?_)))))
      change retQ _ _ _ _ _ _ _
      refine retO (O' := [(8, _)]) (.inl rfl) (resAs_tmp rfl (resAs_tmp rfl resAs_nil)) (SubO.cons rfl SubO.nil) ?_ ?_ (noL' (noL hL) _) ?_
      · rfl
      · rfl
      exact ⟨by rw [allE, if_neg (by simp [hbad])]; rfl, by rw [allL, if_neg (by simp [hbad])]; rfl⟩
    try simp only [↓cqA, cqB] at c2
    refine awp_skip ?_; refine inQ_nil ?_; refine thenQ_nil ?_; refine awp_region ?_; refine awps_stp0 rfl rfl (by decide) (stp_add rfl rfl rfl (by omega)) ?_; refine awps_stp0 rfl rfl (by decide) (stp_move (.inl rfl) rfl) ?_; refine awps_nil ?_; refine thenQ_nil ?_; refine ⟨?_, ?_, ?_⟩
    · skip
      omega
    · skip
      refine ⟨by omega, fun j hj => ?_⟩
      by_cases hji : j ≤ i
      · exact hpi.2 j hji
      · rw [show j = i + 1 by omega, hXs]
        simp only [allStep]; omega
    exact Sub.trans (sub_rename 2 8 (noL hL _) (noL hL _)) (sub_re (SubT.cons (lk_eq rfl (by first | rfl | simp)) (SubT.cons (lk_eq rfl (by first | rfl | simp)) (SubT.cons (lk_eq rfl (by first | rfl | simp)) (SubT.cons (lk_eq rfl (by first | rfl | simp)) (SubT.cons (lk_eq rfl (by first | rfl | simp)) (SubT.nil)))))) (SubO.cons (ok_eq rfl (by show Ob.rowd _ 1 false (bdlDs (onceL (X.flatMap fun b => behL k b g))) = _; rw [hXs]; rfl)) (SubO.nil)) rfl rfl (noL' (noL hL) _))
  try simp only [↓cqA, cqB] at c0
  refine awp_exit ?_; refine thenQ_exit (thenQ_exit (inQ_hit ?_)); refine thenQ_nil ?_; refine awp_seq ?_; refine awp_region ?_; refine awps_stp0 rfl rfl (by decide) (stp_move (.inl rfl) rfl) ?_; refine awps_stp0 rfl rfl (by decide) (stp_move (.inr rfl) rfl) ?_; refine awps_stp0 rfl rfl (by decide) (stp_move (.inr rfl) rfl) ?_; refine awps_nil ?_; refine thenQ_nil ?_; refine awp_ret ?_
  change retQ _ _ _ _ _ _ _
  have hil : gs.take i = gs := List.take_of_length_le (by omega)
  rw [hil] at hX
  have hgo : allOk k l gs = true := List.all_eq_true.2 fun j hj => by
    have := hpi.2 (j + 1) (by have := List.mem_range.1 hj; omega)
    simpa using this
  refine retO (O' := [(8, _)]) (.inl rfl) (resAs_tmp rfl (resAs_tmp rfl resAs_nil)) (SubO.cons rfl SubO.nil) ?_ ?_ (noL' (noL hL) _) ?_
  · rfl
  · rfl
  exact ⟨by rw [allE, if_pos hgo]; rfl, by rw [allL, if_pos hgo, hX]⟩
end Go.Proofs.YtdecgkhdbfgldaaGreat

set_option linter.unusedVariables false
set_option linter.unusedSimpArgs false
set_option maxRecDepth 8000
namespace Go.Proofs.YtdecgkhdbfgldaaGreat
open Go
theorem set_same {α : Type} {l : List α} {i : Nat} {a : α} (h : l[i]? = some a) : l.set i a = l := by
  apply List.ext_getElem?
  intro q
  rw [List.getElem?_set]
  split
  · rename_i e; subst e
    rw [h, if_pos (List.getElem?_eq_some_iff.1 h).1]
  · rfl
theorem allL_len (k : List Tm) (l : List Bd) (gs : List Gd) : (allL k l gs).length ≤ 1000 := by
  unfold allL
  split
  · rename_i h
    cases gs with
    | nil => simp [allX]
    | cons g gs =>
      have := List.all_eq_true.1 h gs.length (List.mem_range.2 (by simp))
      rw [List.take_of_length_le (by simp)] at this
      exact of_decide_eq_true this
  · simp
def holdC (k : List Tm) (l : List Bd) (gs : List Gd) : Bool := atomsB k && mayB l && groundL l && okGs gs
def holdL (k : List Tm) (l : List Bd) (gs : List Gd) : List (List Bd) := if holdC k l gs = true then allL k l gs else []
def holdE (k : List Tm) (l : List Bd) (gs : List Gd) : Int := if holdC k l gs = true then allE k l gs else 1
theorem atoms_of {k : List Tm} (hw : Tm.wfs k) (h : atomsB k = true) : k.length ≤ 60 ∧ ∀ t ∈ k, t.wf ∧ mayT t = true := by
  simp only [atomsB, Bool.and_eq_true, decide_eq_true_eq] at h
  refine ⟨h.1, fun t ht => ⟨Tm.wfs_mem hw ht, ?_⟩⟩
  obtain ⟨i, hi⟩ := List.getElem?_of_mem ht
  have := List.all_eq_true.1 h.2 i (List.mem_range.2 (List.getElem?_eq_some_iff.1 hi).1)
  simp only [atomK, hi, Bool.and_eq_true] at this
  exact this.1.1.1
theorem Holds_ok (k : List Tm) (hkl : lenOk k) (hk : Tm.wfs k) (l : List Bd) (hw : ∀ b ∈ l, b.wf) (gs : List Gd) (hgl : lenOk gs) (hg : ∀ g ∈ gs, g.wf) :
    PF 39 [.dat false 4 (tmDs k), bdA l, .dat false 9 (gdDs gs)] (.tup [.dat false 1 (bdlDs (holdL k l gs)), iv (holdE k l gs)]) := by
  refine AC_leP (Post := fun r O => (holdC k l gs = false ∧ r = .tup [.imm (.slice none 0 0), iv 1] ∨ r = .tup [.dat false 1 (bdlDs (holdL k l gs)), iv (holdE k l gs)]) ∧ O = []) ?_ (fun r O' h => by
    obtain ⟨⟨h1, rfl⟩ | rfl, rfl⟩ := h
    · exact ⟨_, .tup (.cons (.nil (f := false) (k := 1)) (.cons .refl .nil)), by rw [holdL, holdE, if_neg (by simp [h1]), if_neg (by simp [h1])]; rfl, rfl⟩
    · exact ⟨_, .refl, rfl, rfl⟩)
  refine AC_intro Tryz.func39 rfl Tryz.ntmps39 (Nat.le_of_ble_eq_true rfl) fun c hL hQ hDD => ?_; refine awp_seq ?_; refine awp_region ?_; refine awps_stp0 rfl rfl (by decide) (stp_move (.inr rfl) rfl) ?_; refine awps_stp0 rfl rfl (by decide) (stp_move (.inr rfl) rfl) ?_; refine awps_nil ?_; refine thenQ_nil ?_; refine awp_seq ?_; refine awp_seq ?_; refine awp_region ?_
  refine awps_stp0 rfl rfl (by decide) (stp_move (.inl rfl) rfl) ?_; refine awps_call (avs := [_]) true rfl rfl rfl (by decide) en_known_Atoms rfl rfl (knownAtoms_ok k hkl hk) rfl rfl ?_; refine awps_stp0 rfl rfl (by decide) (stp_not rfl rfl) ?_; refine awps_stp0 rfl rfl (by decide) (stp_move (.inl rfl) rfl) ?_; refine awps_split 14 rfl (fun g14 => ?_) (fun g14 => ?_)
  · try simp only [↓cqA, cqB] at g14
    refine awps_gs rfl rfl rfl rfl (by decide) rfl (by decide) ?_; refine awps_gs rfl rfl rfl rfl (by decide) rfl (by decide) ?_; refine awps_gs rfl rfl rfl rfl (by decide) rfl (by decide) ?_; refine awps_stp0 rfl rfl (by decide) (stp_pick rfl rfl rfl) ?_; refine awps_stp0 rfl rfl (by decide) (stp_move (.inl rfl) rfl) ?_; refine awps_gs rfl rfl rfl rfl (by decide) rfl (by decide) ?_
    refine awps_gs rfl rfl rfl rfl (by decide) rfl (by decide) ?_; refine awps_gs rfl rfl rfl rfl (by decide) rfl (by decide) ?_; refine awps_stp0 rfl rfl (by decide) (stp_pick rfl rfl rfl) ?_; refine awps_stp0 rfl rfl (by decide) (stp_move (.inl rfl) rfl) ?_; refine awps_gs rfl rfl rfl rfl (by decide) rfl (by decide) ?_; refine awps_gs rfl rfl rfl rfl (by decide) rfl (by decide) ?_
    refine awps_gs rfl rfl rfl rfl (by decide) rfl (by decide) ?_; refine awps_stp0 rfl rfl (by decide) (stp_pick rfl rfl rfl) ?_; refine awps_nil ?_; refine thenQ_nil ?_; refine awp_condT rfl ?_; refine awp_seq ?_; refine awp_region ?_; refine awps_stp0 rfl rfl (by decide) (stp_move (.inr rfl) rfl) ?_; refine awps_stp0 rfl rfl (by decide) (stp_move (.inr rfl) rfl) ?_; refine awps_nil ?_; refine thenQ_nil ?_; refine awp_ret ?_; refine thenQ_ret (?_)
    -- leaf g14T
    refine ret0 (noL hL) (.inl rfl) (resAs_tmp rfl (resAs_tmp rfl (resAs_nil))) ?_ ?_
    · rfl
    first
    | exact ⟨.inr (by rw [← hX, ← hE]; rfl), rfl⟩
    | exact ⟨.inl ⟨by simp_all [holdC], rfl⟩, rfl⟩
  try simp only [↓cqA, cqB] at g14
  refine awps_g0 rfl rfl rfl (by decide) rfl (by decide) (stp_move (.inl rfl) rfl) ?_; refine awps_g0 rfl rfl rfl (by decide) rfl (by decide) (stp_call (avs := [_]) true rfl en_bind_May rfl rfl (bindMay_ok l hw) (fun _ => rfl) rfl) ?_; refine awps_g0 rfl rfl rfl (by decide) rfl (by decide) (stp_not rfl rfl) ?_; refine awps_stp0 rfl rfl (by decide) (stp_pick rfl rfl rfl) ?_; refine awps_stp0 rfl rfl (by decide) (stp_move (.inl rfl) rfl) ?_; refine awps_split 19 rfl (fun g19 => ?_) (fun g19 => ?_)
  · try simp only [↓cqA, cqB] at g19
    refine awps_gs rfl rfl rfl rfl (by decide) rfl (by decide) ?_; refine awps_gs rfl rfl rfl rfl (by decide) rfl (by decide) ?_; refine awps_gs rfl rfl rfl rfl (by decide) rfl (by decide) ?_; refine awps_stp0 rfl rfl (by decide) (stp_pick rfl rfl rfl) ?_; refine awps_stp0 rfl rfl (by decide) (stp_move (.inl rfl) rfl) ?_; refine awps_gs rfl rfl rfl rfl (by decide) rfl (by decide) ?_
    refine awps_gs rfl rfl rfl rfl (by decide) rfl (by decide) ?_; refine awps_gs rfl rfl rfl rfl (by decide) rfl (by decide) ?_; refine awps_stp0 rfl rfl (by decide) (stp_pick rfl rfl rfl) ?_; refine awps_nil ?_; refine thenQ_nil ?_; refine awp_condT rfl ?_; refine awp_seq ?_; refine awp_region ?_; refine awps_stp0 rfl rfl (by decide) (stp_move (.inr rfl) rfl) ?_; refine awps_stp0 rfl rfl (by decide) (stp_move (.inr rfl) rfl) ?_; refine awps_nil ?_; refine thenQ_nil ?_; refine awp_ret ?_; refine thenQ_ret (?_)
    -- leaf g14Fg19T
    refine ret0 (noL hL) (.inl rfl) (resAs_tmp rfl (resAs_tmp rfl (resAs_nil))) ?_ ?_
    · rfl
    first
    | exact ⟨.inr (by rw [← hX, ← hE]; rfl), rfl⟩
    | exact ⟨.inl ⟨by simp_all [holdC], rfl⟩, rfl⟩
  try simp only [↓cqA, cqB] at g19
  refine awps_g0 rfl rfl rfl (by decide) rfl (by decide) (stp_move (.inl rfl) rfl) ?_; refine awps_g0 rfl rfl rfl (by decide) rfl (by decide) (stp_call (avs := [_]) true rfl en_bind_Ground rfl rfl (bindGround_ok l (mayB_bok (by assumption) hw)) (fun _ => rfl) rfl) ?_; refine awps_g0 rfl rfl rfl (by decide) rfl (by decide) (stp_not rfl rfl) ?_; refine awps_stp0 rfl rfl (by decide) (stp_pick rfl rfl rfl) ?_; refine awps_stp0 rfl rfl (by decide) (stp_move (.inl rfl) rfl) ?_; refine awps_split 24 rfl (fun g24 => ?_) (fun g24 => ?_)
  · try simp only [↓cqA, cqB] at g24
    refine awps_gs rfl rfl rfl rfl (by decide) rfl (by decide) ?_; refine awps_gs rfl rfl rfl rfl (by decide) rfl (by decide) ?_; refine awps_gs rfl rfl rfl rfl (by decide) rfl (by decide) ?_; refine awps_stp0 rfl rfl (by decide) (stp_pick rfl rfl rfl) ?_; refine awps_nil ?_; refine thenQ_nil ?_; refine awp_condT rfl ?_; refine awp_seq ?_; refine awp_region ?_; refine awps_stp0 rfl rfl (by decide) (stp_move (.inr rfl) rfl) ?_; refine awps_stp0 rfl rfl (by decide) (stp_move (.inr rfl) rfl) ?_; refine awps_nil ?_; refine thenQ_nil ?_; refine awp_ret ?_; refine thenQ_ret (?_)
    -- leaf g14Fg19Fg24T
    refine ret0 (noL hL) (.inl rfl) (resAs_tmp rfl (resAs_tmp rfl (resAs_nil))) ?_ ?_
    · rfl
    first
    | exact ⟨.inr (by rw [← hX, ← hE]; rfl), rfl⟩
    | exact ⟨.inl ⟨by simp_all [holdC], rfl⟩, rfl⟩
  try simp only [↓cqA, cqB] at g24
  refine awps_g0 rfl rfl rfl (by decide) rfl (by decide) (stp_move (.inl rfl) rfl) ?_; refine awps_g0 rfl rfl rfl (by decide) rfl (by decide) (stp_call (avs := [_]) true rfl en_show_Guards rfl rfl (showGuards_ok gs hgl hg) (fun _ => rfl) rfl) ?_; refine awps_g0 rfl rfl rfl (by decide) rfl (by decide) (stp_not rfl rfl) ?_; refine awps_stp0 rfl rfl (by decide) (stp_pick rfl rfl rfl) ?_; refine awps_nil ?_; refine thenQ_nil ?_; refine awp_cond rfl (fun c0 => ?_) (fun c0 => ?_)
  · try simp only [↓cqA, cqB] at c0
    refine awp_seq ?_; refine awp_region ?_; refine awps_stp0 rfl rfl (by decide) (stp_move (.inr rfl) rfl) ?_; refine awps_stp0 rfl rfl (by decide) (stp_move (.inr rfl) rfl) ?_; refine awps_nil ?_; refine thenQ_nil ?_; refine awp_ret ?_; refine thenQ_ret (?_)
    -- leaf g14Fg19Fg24F0T
    refine ret0 (noL hL) (.inl rfl) (resAs_tmp rfl (resAs_tmp rfl (resAs_nil))) ?_ ?_
    · rfl
    first
    | exact ⟨.inr (by rw [← hX, ← hE]; rfl), rfl⟩
    | exact ⟨.inl ⟨by simp_all [holdC], rfl⟩, rfl⟩
  try simp only [↓cqA, cqB] at c0
  have hhc : holdC k l gs = true := by simp_all [holdC]
  have hh := hhc
  simp only [holdC, Bool.and_eq_true] at hh
  obtain ⟨hk1, hk2⟩ := atoms_of hk hh.1.1.1
  have hok := mayB_bok hh.1.1.2 hw
  have hl16 := mayB_len hh.1.1.2
  have hg2 := hh.2
  simp only [okGs, Bool.and_eq_true, decide_eq_true_eq, List.all_eq_true] at hg2
  have hX : allL k l gs = holdL k l gs := by rw [holdL, if_pos hhc]
  have hE : allE k l gs = holdE k l gs := by rw [holdE, if_pos hhc]
  have hXa : ∀ y ∈ allL k l gs, BOk y := fun y hy => by
    unfold allL at hy
    split at hy
    · exact (allX_all hk2 hok hl16 gs [l] hg (fun y hy => by rw [List.mem_singleton.1 hy]; exact ⟨hok, hl16⟩) y hy).1
    · cases hy
  have hXd := bdlDs_length (allL k l gs)
  have hXm := allL_len k l gs
  generalize hEe : allE k l gs = E at *
  generalize hXe : allL k l gs = X at *
  refine awp_skip ?_; refine thenQ_nil ?_; refine awp_seq ?_; refine awp_region ?_; refine awps_stp0 rfl rfl (by decide) (stp_move (.inl rfl) rfl) ?_; refine awps_stp0 rfl rfl (by decide) (stp_move (.inl rfl) rfl) ?_; refine awps_stp0 rfl rfl (by decide) (stp_move (.inl rfl) rfl) ?_; refine awps_callP (avs := [_, _, _]) false rfl rfl rfl (by decide) en_guard_All rfl rfl (All_ok k hk1 hk2 l hok hl16 gs (fun g hgm => ⟨hg g hgm, hg2.2 g hgm⟩) hg2.1) (rfl) (passO .nil) (by rintro r O' ⟨_, rfl⟩; exact frB rfl) (by rintro h; cases h) ?_
  rintro r O' ⟨rfl, rfl⟩
  rw [hXe, hEe]
  refine awps_stp0 rfl rfl (by decide) (stp_move (.inl rfl) rfl) ?_; refine awps_stp0 rfl rfl (by decide) (stp_extract rfl rfl rfl) ?_; refine awps_stp0 rfl rfl (by decide) (stp_extract rfl rfl rfl) ?_; refine awps_stp0 rfl rfl (by decide) (stp_move (.inr rfl) rfl) ?_; refine awps_stp0 rfl rfl (by decide) (stp_move (.inr rfl) rfl) ?_; refine awps_nil ?_; refine thenQ_nil ?_; refine awp_seq ?_; refine awp_seq ?_; refine awp_region ?_; refine awps_stp0 rfl rfl (by decide) (stp_move (.inl rfl) rfl) ?_; refine awps_stp0 rfl rfl (by decide) (stp_len_rowd rfl sl_S_S_api_Bind rfl rfl) ?_
  refine awps_stp0 rfl rfl (by decide) (stp_move (.inl rfl) rfl) ?_; refine awps_nil ?_; refine thenQ_nil ?_; refine awp_block ?_; refine awp_while (X.length) (fun i => i ≤ X.length) (fun i => ⟨[(8, .row 8), (9, iv E), (37, iv (bdlDs X).length), (38, iv (i : Int))], [(8, .rowd 28 1 false (bdlDs X))]⟩) (by omega) ?_ (fun i hi hpi => ?_)
  · exact sub_re (SubT.cons (lk_eq rfl (by first | rfl | simp)) (SubT.cons (lk_eq rfl (by first | rfl | simp)) (SubT.cons (lk_eq rfl (by first | rfl | simp)) (SubT.cons (lk_eq rfl (by first | rfl | simp)) (SubT.nil))))) (SubO.cons (ok_eq rfl (by rfl)) (SubO.nil)) rfl rfl (noL' (noL hL) _)
  refine awp_seq ?_; refine awp_region ?_; refine awps_stp0 rfl rfl (by decide) (stp_binI rfl rfl rfl rfl) ?_; refine awps_nil ?_; refine thenQ_nil ?_; refine awp_seq ?_; refine awp_cond rfl (fun c1 => ?_) (fun c1 => ?_)
  · try simp only [↓cqA, cqB] at c1
    obtain ⟨y, hy⟩ := get_of_lt (l := X) (k := i) (by omega)
    have hyb := hXa y (List.mem_of_getElem? hy)
    refine awp_skip ?_; refine thenQ_nil ?_; refine awp_seq ?_; refine awp_block ?_; refine awp_seq ?_; refine awp_region ?_; refine awps_stp0 rfl rfl (by decide) (stp_move (.inl rfl) rfl) ?_; refine awps_stp0 rfl rfl (by decide) (stp_move (.inr rfl) rfl) ?_; refine awps_nil ?_; refine thenQ_nil ?_; refine awp_region ?_; refine awps_stp0 rfl rfl (by decide) (stp_move (.inl rfl) rfl) ?_; refine awps_stp0 rfl rfl (by decide) (stp_move (.inl rfl) rfl) ?_; refine awps_stp0 rfl rfl (by decide) (stp_move (.inl rfl) rfl) ?_; refine awps_stp0 rfl rfl (by decide) (stp_move (.inl rfl) rfl) ?_
    refine awps_stp0 rfl rfl (by decide) (stp_indexAddr_rowd rfl sl_S_S_api_Bind rfl rfl rfl (by omega) (by rw [hXd]; omega)) ?_; refine awps_stp0 rfl rfl (by decide) (stp_load_rowdi i 0 rfl tf_S_api_Bind rfl rfl (by simp) (bdlDs_get hy) rfl rfl rfl) ?_; refine awps_callP (avs := [_]) true rfl rfl rfl (by decide) en_bind_Own rfl rfl (bindOwn_ok y hyb) (rfl) (passO .nil) (by rintro r O' ⟨_, rfl⟩; exact frB rfl) (by rintro - r O' ⟨rfl, rfl⟩; exact ⟨rfl, rfl⟩) ?_
    rintro r O' ⟨rfl, rfl⟩
    refine awps_sub (sub_freeze (l := 2) rfl (by decide) (noL hL _) rfl rfl) ?_; refine awps_sub (sub_untag hQ) ?_; refine awps_stp0 rfl rfl (by decide) (stp_indexAddr_rowd rfl sl_S_S_api_Bind rfl rfl rfl (by omega) (by rw [hXd]; omega)) ?_
    refine awps_storeRowd i rfl rfl rfl tf_S_api_Bind rfl rfl (by simp) (by rw [hXd]; omega) rfl rfl rfl rfl rfl rfl ?_; refine awps_nil ?_; refine inQ_nil ?_; refine thenQ_nil ?_; refine awp_region ?_; refine awps_stp0 rfl rfl (by decide) (stp_add rfl rfl rfl (by omega)) ?_; refine awps_stp0 rfl rfl (by decide) (stp_move (.inl rfl) rfl) ?_; refine awps_nil ?_; refine thenQ_nil ?_; refine ⟨?_, ?_, ?_⟩
    · skip
      omega
    · skip
      omega
    exact sub_re (SubT.cons (lk_eq rfl (by first | rfl | simp)) (SubT.cons (lk_eq rfl (by first | rfl | simp)) (SubT.cons (lk_eq rfl (by first | rfl | simp)) (SubT.cons (lk_eq rfl (by first | rfl | simp)) (SubT.nil))))) (SubO.cons (ok_eq rfl (by exact congrArg (Ob.rowd _ 1 false) (set_same (bdlDs_get hy)))) (SubO.nil)) rfl rfl (noL' (noL hL) _)
  try simp only [↓cqA, cqB] at c1
  refine awp_exit ?_; refine thenQ_exit (thenQ_exit (inQ_hit ?_)); refine thenQ_nil ?_; refine awp_seq ?_; refine awp_sub (sub_freeze (l := 8) rfl (by decide) (noL hL _) rfl rfl) ?_; refine awp_region ?_; refine awps_stp0 rfl rfl (by decide) (stp_move (.inl rfl) rfl) ?_; refine awps_stp0 rfl rfl (by decide) (stp_move (.inl rfl) rfl) ?_; refine awps_stp0 rfl rfl (by decide) (stp_move (.inr rfl) rfl) ?_; refine awps_stp0 rfl rfl (by decide) (stp_move (.inr rfl) rfl) ?_; refine awps_nil ?_; refine thenQ_nil ?_; refine awp_ret ?_
  -- leaf g14Fg19Fg24F0F1F
  refine ret0 (noL hL) (.inl rfl) (resAs_tmp rfl (resAs_tmp rfl (resAs_nil))) ?_ ?_
  · rfl
  first
  | exact ⟨.inr (by rw [← hX, ← hE]; rfl), rfl⟩
  | exact ⟨.inl ⟨by simp_all [holdC], rfl⟩, rfl⟩
end Go.Proofs.YtdecgkhdbfgldaaGreat

set_option linter.unusedVariables false
set_option linter.unusedSimpArgs false
set_option maxRecDepth 8000
namespace Go.Proofs.YtdecgkhdbfgldaaGreat
open Go
theorem guardE_one {kind : Int} {a b : Tm} (h : ¬ (1 ≤ kind ∧ kind ≤ 4) ∨ mayT a = false ∨ mayT b = false ∨ groundB a = false ∨ groundB b = false) : guardE kind a b = 1 ∧ guardC kind a b = false := by
  have e : guardE kind a b = 1 := by
    rw [guardE, if_pos]
    rcases h with h | h
    · by_cases h1 : kind < 1
      · exact .inl h1
      · exact .inr (.inl (by omega))
    · exact .inr (.inr h)
  exact ⟨e, by rw [guardC, e]; rfl⟩
end Go.Proofs.YtdecgkhdbfgldaaGreat

set_option linter.unusedVariables false
set_option linter.unusedSimpArgs false
namespace Go.Proofs.YtdecgkhdbfgldaaGreat
open Go
def bnd (y : List Bd) (t : Tm) : Prop := ∀ v, t.occ v → hasB y v = true
def Ext (l y : List Bd) : Prop := ∀ v, hasB l v = true → hasB y v = true ∧ gB y v = gB l v
theorem Ext.refl (l : List Bd) : Ext l l := fun v h => ⟨h, rfl⟩
theorem Ext.put {l y : List Bd} (he : Ext l y) {t : Tm} (hb : bnd l t) (hd : dle 5 t) : putT y t = putT l t := by
  rw [putT_sub hd, putT_sub hd]; exact sub_congr t fun v hv => (he v (hb v hv)).2
theorem Ext.bnd {l y : List Bd} (he : Ext l y) {t : Tm} (hb : bnd l t) : bnd y t := fun v hv => (he v (hb v hv)).1
theorem bnd_of {l : List Bd} (hr : RisB l) {t : Tm} (hm : mayT t = true) (hg : Gr (putT l t)) : bnd l t := fun v hv => by
  cases hc : hasB l v with
  | true => rfl
  | false =>
    exfalso
    refine hg v ?_
    rw [putT_sub (may_dle hm), occ_sub _ _ _ (may_shp hm)]
    exact ⟨v, hv, by rw [gB_none hr hc, varT_occ]⟩
def Sat (k : List Tm) (y : List Bd) (g : Gd) : Prop := bnd y g.l ∧ (g.kind = 5 → putT y g.l ∈ k) ∧ (g.kind ≠ 5 → g.kind ≠ 6 → bnd y g.r) ∧ (g.kind ≠ 5 → behL k y g = [y])
theorem okG_l {g : Gd} (h : okG g = true) : mayT g.l = true ∧ (g.kind ≠ 5 → g.kind ≠ 6 → mayT g.r = true) := by
  simp only [okG, cmpsB, Bool.or_eq_true, Bool.and_eq_true, decide_eq_true_eq] at h
  rcases h with h | h
  · exact ⟨h.1.2, fun _ _ => h.2⟩
  · exact ⟨h.1.2.1, fun h5 h6 => by rcases h.1.1 with e | e <;> contradiction⟩
theorem Sat.ext {k : List Tm} {l y : List Bd} {g : Gd} (hg : okG g = true) (hs : Sat k l g) (he : Ext l y) : Sat k y g := by
  obtain ⟨h1, h2, h3, h4⟩ := hs
  obtain ⟨m1, m2⟩ := okG_l hg
  have e1 := he.put h1 (may_dle m1)
  refine ⟨he.bnd h1, fun h5 => by rw [e1]; exact h2 h5, fun h5 h6 => he.bnd (h3 h5 h6), fun h5 => ?_⟩
  have hb := h4 h5
  unfold behL at hb ⊢
  rw [if_neg h5] at hb ⊢
  by_cases h6 : g.kind = 6
  · rw [if_pos h6] at hb ⊢
    rw [e1]
    split at hb
    · rename_i hc; rw [if_pos hc]
    · cases hb
  · rw [if_neg h6] at hb ⊢
    have e2 := he.put (h3 h5 h6) (may_dle (m2 h5 h6))
    have e3 : cmpdB y g = cmpdB l g := by rw [cmpdB, cmpdB, e1, e2]
    rw [e3]
    split at hb
    · rename_i hc; rw [if_pos hc]
    · cases hb
mutual
theorem fitR_self : ∀ (d : Nat) (l : List Bd) (t : Tm), dle d t → Gr t → fitR d l t t = (l, 0)
  | 0, l, t, h, _ => h.elim
  | d + 1, l, t, h, hg => by
    have hk : ¬ t.kind = 1 := fun hk => hg t.name ((Tm.occ_iff _ _).2 (.inl ⟨hk, rfl⟩))
    rw [fitR, if_neg hk, if_pos (by simp [argsB])]
    exact fitL_self d l t.args (fun u hu => h u hu) (fun u hu => hg.arg hu)
theorem fitL_self : ∀ (d : Nat) (l : List Bd) (x : List Tm), (∀ u ∈ x, dle d u) → (∀ u ∈ x, Gr u) → fitL d l (x.zip x) = (l, 0)
  | d, l, [], _, _ => by rw [List.zip_nil_left, fitL]
  | d, l, u :: x, h, hg => by
    have e := fitR_self d l u (h u (by simp)) (hg u (by simp))
    rw [List.zip_cons_cons, fitL, e]
    exact fitL_self d l x (fun v hv => h v (by simp [hv])) (fun v hv => hg v (by simp [hv]))
end
theorem once_same {y : List Bd} : ∀ (L : List (List Bd)), L ≠ [] → (∀ z ∈ L, z = y) → onceL L = [y] := by
  have key : ∀ L : List (List Bd), (∀ z ∈ L, z = y) → L.foldl onceS [y] = [y] := fun L => by
    induction L with
    | nil => intro _; rfl
    | cons a L ih =>
      intro h
      have ha := h a (by simp)
      subst ha
      rw [List.foldl_cons, show onceS [a] a = [a] by simp [onceS]]
      exact ih fun z hz => h z (by simp [hz])
  intro L hn h
  cases L with
  | nil => exact absurd rfl hn
  | cons a L =>
    have ha := h a (by simp)
    subst ha
    rw [onceL, List.foldl_cons, show onceS [] a = [a] by simp [onceS]]
    exact key L fun z hz => h z (by simp [hz])
def KG (k : List Tm) : Prop := ∀ t ∈ k, t.wf ∧ mayT t = true ∧ Gr t ∧ flatB t = true
theorem KG_of {k : List Tm} (hw : Tm.wfs k) (h : atomsB k = true) : KG k := fun t ht => by
  simp only [atomsB, Bool.and_eq_true, decide_eq_true_eq] at h
  obtain ⟨i, hi⟩ := List.getElem?_of_mem ht
  have := List.all_eq_true.1 h.2 i (List.mem_range.2 (List.getElem?_eq_some_iff.1 hi).1)
  simp only [atomK, hi, Bool.and_eq_true] at this
  exact ⟨Tm.wfs_mem hw ht, this.1.1.1, (groundB_iff (may_dle this.1.1.1)).1 this.1.2, this.1.1.2⟩
theorem both_nil {y : List Bd} (h : y.length ≤ 16) : bothE y [] = 0 ∧ bothL y [] = y := by
  have h1 : bothOk y [] = true := rfl
  have h2 : bothX y [] = y := rfl
  rw [bothE, bothL, if_pos h1, h2, if_pos h, if_pos ⟨h1, h⟩]
  exact ⟨rfl, rfl⟩
theorem sat_step {k : List Tm} (hk : KG k) {y : List Bd} (hy : GG y) {g : Gd} (hs : Sat k y g) : allStep k [y] g = [y] := by
  have e : allStep k [y] g = onceL (behL k y g) := by simp [allStep]
  rw [e]
  by_cases h5 : g.kind = 5
  · obtain ⟨kw, km, kg, kf⟩ := hk _ (hs.2.1 h5)
    have hb : behL k y g = ((ansL k (putT y g.l)).filter fun z => decide (bothE y z = 0)).map fun z => bothL y z := by
      rw [behL, if_pos h5, if_pos (by simp [km, kf])]
    have hn : ∀ z ∈ ansL k (putT y g.l), z = [] := fun z hz => by
      obtain ⟨u, hu, rfl⟩ := List.mem_map.1 hz
      obtain ⟨hu1, hu2⟩ := List.mem_filter.1 hu
      obtain ⟨uw, um, ug, _⟩ := hk u hu1
      obtain ⟨f1, _⟩ := fit_spec 5 [] (putT y g.l) u GG_nil (may_shp km) kw um uw ug (of_decide_eq_true hu2)
      cases hm : (fitR 5 [] (putT y g.l) u).1 with
      | nil => rfl
      | cons b m =>
        exfalso
        have hh : hasB (fitR 5 [] (putT y g.l) u).1 b.name = true := (hasB_iff _ _).2 ⟨b, by rw [hm]; simp, rfl⟩
        rcases (f1.dom b.name).1 hh with h | h
        · cases h
        · exact kg _ h
    have hin : [] ∈ ansL k (putT y g.l) := List.mem_map.2 ⟨putT y g.l, List.mem_filter.2 ⟨hs.2.1 h5, by rw [fitsB, fitR_self 5 [] _ (may_dle km) kg]; rfl⟩, by rw [fitR_self 5 [] _ (may_dle km) kg]⟩
    obtain ⟨b1, b2⟩ := both_nil hy.gb.len
    rw [hb]
    refine once_same _ (fun h => ?_) fun z hz => ?_
    · have : bothL y [] ∈ ((ansL k (putT y g.l)).filter fun z => decide (bothE y z = 0)).map fun z => bothL y z := List.mem_map.2 ⟨[], List.mem_filter.2 ⟨hin, by simp [b1]⟩, rfl⟩
      rw [h] at this; cases this
    · obtain ⟨m, hm, rfl⟩ := List.mem_map.1 hz
      rw [hn m (List.mem_filter.1 hm).1, b2]
  · rw [hs.2.2.2 h5]; rfl
theorem guardC_gr {kind : Int} {a b : Tm} (h : guardC kind a b = true) : groundB a = true ∧ groundB b = true := by
  constructor
  · cases hc : groundB a with
    | true => rfl
    | false => have := (guardE_one (kind := kind) (a := a) (b := b) (.inr (.inr (.inr (.inl hc))))).2; rw [h] at this; cases this
  · cases hc : groundB b with
    | true => rfl
    | false => have := (guardE_one (kind := kind) (a := a) (b := b) (.inr (.inr (.inr (.inr hc))))).2; rw [h] at this; cases this
theorem behL_sat {k : List Tm} (hk : KG k) {l : List Bd} (hl : GG l) {g : Gd} (hg : g.wf) (ho : okG g = true) {y : List Bd} (hy : y ∈ behL k l g) : GG y ∧ Ext l y ∧ Sat k y g := by
  obtain ⟨m1, m2⟩ := okG_l ho
  have hy0 := hy
  unfold behL at hy
  by_cases h5 : g.kind = 5
  · rw [if_pos h5] at hy
    split at hy
    · rename_i hc
      simp only [Bool.and_eq_true] at hc
      obtain ⟨m, hm, rfl⟩ := List.mem_map.1 hy
      obtain ⟨hm1, hm2⟩ := List.mem_filter.1 hm
      obtain ⟨u, hu, rfl⟩ := List.mem_map.1 hm1
      obtain ⟨hu1, hu2⟩ := List.mem_filter.1 hu
      obtain ⟨uw, um, ug, _⟩ := hk u hu1
      have tw := putT_wf hl.gb.bok hg.2.1
      obtain ⟨f1, f2⟩ := fit_spec 5 [] (putT l g.l) u GG_nil (may_shp hc.1) tw um uw ug (of_decide_eq_true hu2)
      generalize hM : (fitR 5 [] (putT l g.l) u).1 = M at *
      have hb0 : bothE l M = 0 := of_decide_eq_true hm2
      have hmo := f1.gg.gb.bok
      obtain ⟨p1, p2⟩ := bothX_spec M l ⟨hl.gb.ris, hl.gb.bok.el⟩ hmo.ris hmo.el
      have hbo : bothOk l M = true := by
        rw [bothE] at hb0
        split at hb0
        · assumption
        · cases hb0
      have hbl : (bothX l M).length ≤ 16 := by
        rw [bothE, if_pos hbo] at hb0
        split at hb0
        · assumption
        · cases hb0
      have hL : bothL l M = bothX l M := by rw [bothL, if_pos ⟨hbo, hbl⟩]
      obtain ⟨q1, q2⟩ := p2 hbo
      rw [hL]
      have gy : GG (bothX l M) := by
        have gr : ∀ b ∈ bothX l M, Gr b.t := fun b hb => by
          rcases (q2 b).1 hb with h | h
          · exact hl.gr b h
          · exact f1.gg.gr b h
        exact ⟨⟨hbl, q1.ris, fun b hb => by
          rcases (q2 b).1 hb with h | h
          · exact hl.gb.el b h
          · exact f1.gg.gb.el b h, fun b hb v hv => absurd hv (gr b hb v)⟩, gr⟩
      have e1 : Ext l (bothX l M) := fun v hv => by
        obtain ⟨b, hb, rfl⟩ := (hasB_iff l v).1 hv
        have hby := (q2 b).2 (.inl hb)
        exact ⟨(hasB_iff _ _).2 ⟨b, hby, rfl⟩, by rw [gB_mem q1.ris hby, gB_mem hl.gb.ris hb]⟩
      have e2 : Ext M (bothX l M) := fun v hv => by
        obtain ⟨b, hb, rfl⟩ := (hasB_iff M v).1 hv
        have hby := (q2 b).2 (.inr hb)
        exact ⟨(hasB_iff _ _).2 ⟨b, hby, rfl⟩, by rw [gB_mem q1.ris hby, gB_mem hmo.ris hb]⟩
      have hv2 : ∀ v, g.l.occ v → hasB l v = false → hasB M v = true := fun v hv hc2 => by
        refine (f1.dom v).2 (.inr ?_)
        rw [putT_sub (may_dle m1), occ_sub _ _ _ (may_shp m1)]
        exact ⟨v, hv, by rw [gB_none hl.gb.ris hc2, varT_occ]⟩
      refine ⟨gy, e1, fun v hv => ?_, fun _ => ?_, fun h _ => absurd h5 h, fun h => absurd h5 h⟩
      · cases hc2 : hasB l v with
        | true => exact (e1 v hc2).1
        | false => exact (e2 v (hv2 v hv hc2)).1
      · have e3 : putT (bothX l M) g.l = u := by
          rw [← f2, putT_sub (may_dle m1), putT_sub (may_dle m1), sub_sub]
          refine sub_congr g.l fun v hv => ?_
          cases hc2 : hasB l v with
          | true =>
            have hgt := hl.get hc2
            rw [hgt.1.sub (may_shp hgt.2)]
            exact (e1 v hc2).2
          | false =>
            rw [gB_none hl.gb.ris hc2, varT_sub]
            exact (e2 v (hv2 v hv hc2)).2
        rw [e3]; exact hu1
    · cases hy
  · rw [if_neg h5] at hy
    by_cases h6 : g.kind = 6
    · rw [if_pos h6] at hy
      split at hy
      · rename_i hc
        have e := List.mem_singleton.1 hy
        subst e
        simp only [Bool.and_eq_true] at hc
        have hgr := (groundB_iff (may_dle hc.1.1)).1 hc.1.2
        refine ⟨hl, Ext.refl _, bnd_of hl.gb.ris m1 hgr, fun h => absurd h h5, fun _ h => absurd h6 h, fun _ => ?_⟩
        rw [behL, if_neg h5, if_pos h6, if_pos (by simp only [Bool.and_eq_true]; exact hc)]
      · cases hy
    · rw [if_neg h6] at hy
      split at hy
      · rename_i hc
        have e := List.mem_singleton.1 hy
        subst e
        have hc2 := hc
        simp only [cmpdB, Bool.and_eq_true] at hc2
        obtain ⟨g1, g2⟩ := guardC_gr hc2.2
        refine ⟨hl, Ext.refl _, bnd_of hl.gb.ris m1 ((groundB_iff (may_dle hc2.1.1)).1 g1), fun h => absurd h h5, fun _ _ => bnd_of hl.gb.ris (m2 h5 h6) ((groundB_iff (may_dle hc2.1.2)).1 g2), fun _ => ?_⟩
        rw [behL, if_neg h5, if_neg h6, if_pos hc]
      · cases hy
theorem all_sat {k : List Tm} (hk : KG k) : ∀ (gs : List Gd) (D : List Gd) (X : List (List Bd)), (∀ g ∈ gs, g.wf ∧ okG g = true) → (∀ g ∈ D, okG g = true) → (∀ x ∈ X, GG x ∧ ∀ g ∈ D, Sat k x g) → ∀ y ∈ gs.foldl (allStep k) X, GG y ∧ ∀ g ∈ D ++ gs, Sat k y g
  | [], D, X, _, _, h => fun y hy => by rw [List.append_nil]; exact h y hy
  | g :: gs, D, X, hg, hD, h => fun y hy => by
    have := all_sat hk gs (D ++ [g]) (allStep k X g) (fun g' hg' => hg g' (by simp [hg'])) (fun g' hg' => by
      rcases List.mem_append.1 hg' with h1 | h1
      · exact hD g' h1
      · rw [List.mem_singleton.1 h1]; exact (hg g (by simp)).2) (fun x hx => by
      rcases onceL_mem _ _ x hx with hx | hx
      · cases hx
      · obtain ⟨b, hb, hx⟩ := List.mem_flatMap.1 hx
        obtain ⟨gb, sb⟩ := h b hb
        obtain ⟨gx, ex, sx⟩ := behL_sat hk gb (hg g (by simp)).1 (hg g (by simp)).2 hx
        refine ⟨gx, fun g' hg' => ?_⟩
        rcases List.mem_append.1 hg' with h1 | h1
        · exact (sb g' h1).ext (hD g' h1) ex
        · rw [List.mem_singleton.1 h1]; exact sx) y hy
    rwa [List.append_assoc] at this
theorem all_again {k : List Tm} (hk : KG k) {y : List Bd} (hy : GG y) : ∀ gs : List Gd, (∀ g ∈ gs, Sat k y g) → gs.foldl (allStep k) [y] = [y]
  | [], _ => rfl
  | g :: gs, h => by
    rw [List.foldl_cons, sat_step hk hy (h g (by simp))]
    exact all_again hk hy gs fun g' hg' => h g' (by simp [hg'])
theorem groundL_iff {l : List Bd} (hm : ∀ b ∈ l, mayT b.t = true) : groundL l = true ↔ ∀ b ∈ l, Gr b.t := by
  have hd : ∀ t ∈ l.map Bd.t, dle 5 t := fun t ht => by
    obtain ⟨b, hb, rfl⟩ := List.mem_map.1 ht; exact may_dle (hm b hb)
  rw [groundL, List.isEmpty_iff, List.eq_nil_iff_forall_not_mem]
  constructor
  · intro h b hb y hy; exact h y ((noteL5 hd y).2 ⟨b.t, List.mem_map.2 ⟨b, hb, rfl⟩, hy⟩)
  · intro h y hy
    obtain ⟨t, ht, ho⟩ := (noteL5 hd y).1 hy
    obtain ⟨b, hb, rfl⟩ := List.mem_map.1 ht
    exact h b hb y ho
theorem hold_none {k : List Tm} {l : List Bd} (h : holdE k l [] = 0) : holdL k l [] = [l] := by
  rw [holdE] at h
  split at h
  · rename_i hc
    rw [holdL, if_pos hc]; rfl
  · cases h
theorem hold_again {k : List Tm} (hkw : Tm.wfs k) {l : List Bd} (hw : ∀ b ∈ l, b.wf) {gs : List Gd} (hg : ∀ g ∈ gs, g.wf) (h : holdE k l gs = 0) : ∀ y ∈ holdL k l gs, GG y ∧ holdE k y gs = 0 ∧ holdL k y gs = [y] := by
  intro y hy
  rw [holdE] at h
  split at h
  · rename_i hc
    rw [allE] at h
    split at h
    · rename_i ha
      rw [holdL, if_pos hc, allL, if_pos ha] at hy
      have hc2 := hc
      simp only [holdC, Bool.and_eq_true] at hc2
      have hk := KG_of hkw hc2.1.1.1
      have hgb := (mayB_iff hw).1 hc2.1.1.2
      have hgg : GG l := ⟨hgb, (groundL_iff fun b hb => (hgb.el b hb).2.2).1 hc2.1.2⟩
      have hgo := hc2.2
      simp only [okGs, Bool.and_eq_true, decide_eq_true_eq, List.all_eq_true] at hgo
      obtain ⟨gy, sy⟩ := all_sat hk gs [] [l] (fun g hgm => ⟨hg g hgm, hgo.2 g hgm⟩) (fun g hg => by cases hg) (fun x hx => by rw [List.mem_singleton.1 hx]; exact ⟨hgg, fun g hg => by cases hg⟩) y hy
      have sy2 : ∀ g ∈ gs, Sat k y g := fun g hgm => sy g (by simpa using hgm)
      have hyw : ∀ b ∈ y, b.wf := fun b hb => (gy.gb.el b hb).1
      have hcy : holdC k y gs = true := by
        simp only [holdC, Bool.and_eq_true]
        exact ⟨⟨⟨hc2.1.1.1, (mayB_iff hyw).2 gy.gb⟩, (groundL_iff fun b hb => (gy.gb.el b hb).2.2).2 gy.gr⟩, hc2.2⟩
      have hax : ∀ i, allX k y (gs.take i) = [y] := fun i => all_again hk gy _ fun g hgm => sy2 g (List.mem_of_mem_take hgm)
      have hao : allOk k y gs = true := List.all_eq_true.2 fun i _ => by rw [hax]; simp
      refine ⟨gy, by rw [holdE, if_pos hcy, allE, if_pos hao], ?_⟩
      rw [holdL, if_pos hcy, allL, if_pos hao]
      have := hax gs.length
      rwa [List.take_length] at this
    · cases h
  · cases h
end Go.Proofs.YtdecgkhdbfgldaaGreat
