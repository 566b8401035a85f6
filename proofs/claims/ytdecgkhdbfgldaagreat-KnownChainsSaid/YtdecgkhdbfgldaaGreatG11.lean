/- Part 11 of the proof: Km. -/
import Derived.Test.YtdecgkhdbfgldaaGreatG10
set_option linter.unusedVariables false
set_option linter.unusedSimpArgs false
set_option maxRecDepth 8000
namespace Go.Proofs.YtdecgkhdbfgldaaGreat
open Go
theorem u64_in {a : Int} (h0 : 0 ≤ a) (h : a ≤ 9223372036854775807) : IntKind.u64.wrap a = a := by
  rw [show IntKind.u64.wrap a = a % 18446744073709551616 from rfl]
  omega
theorem Within_ok (x : Nat) (hx : x ≤ 1000000000000000) : PF 76 [iv (x : Int), iv 5] (iv ((x % 5 : Nat) : Int)) := by
  refine AC_intro Tryz.func76 rfl Tryz.ntmps76 (Nat.le_of_ble_eq_true rfl) fun c hL hQ hDD => ?_; refine awp_seq ?_; refine awp_region ?_; refine awps_stp0 rfl rfl (by decide) (stp_move (.inr rfl) rfl) ?_; refine awps_nil ?_; refine thenQ_nil ?_; refine awp_seq ?_; refine awp_region ?_; refine awps_stp0 rfl rfl (by decide) (stp_move (.inl rfl) rfl) ?_
  refine awps_stp0 rfl rfl (by decide) (stp_conv rfl us_int ul_uint rfl) ?_; refine awps_stp0 rfl rfl (by decide) (stp_move (.inl rfl) rfl) ?_; refine awps_stp0 rfl rfl (by decide) (stp_conv rfl us_int ul_uint rfl) ?_; refine awps_stp0 rfl rfl (by decide) (stp_binI rfl rfl rfl rfl) ?_; refine awps_stp0 rfl rfl (by decide) (stp_conv rfl us_uint ul_int rfl) ?_; refine awps_stp0 rfl rfl (by decide) (stp_move (.inr rfl) rfl) ?_; refine awps_nil ?_; refine thenQ_nil ?_; refine awp_ret ?_
  -- leaf 
  refine ret0 (noL hL) (.inl rfl) (resAs_tmp rfl (resAs_nil)) ?_ ?_
  · rfl
  refine ⟨int_w ?_, rfl⟩
  rw [u64_in (by omega) (by omega), u64_in (by decide) (by decide), Int.tmod_eq_emod_of_nonneg (by omega), wrap_in (by omega)]
  omega
theorem knownAsk_ok (k : List Tm) (hk : Kn k) (hat : atomsB k = true) (a : Tm) (haw : a.wf) (ham : mayT a = true) (haf : flatB a = true) : PF 77 [.dat false 4 (tmDs k), tmA false a] (.tup [.dat false 1 (bdlDs (ansL k a)), iv 0]) := by
  have hkl := hk.len
  have k1 := knownAtoms_ok k (by simp only [lenOk]; omega) (wfs_of fun t ht => (hk.atk t ht).wf)
  rw [hat] at k1
  have k2 := May_ok a haw
  rw [ham] at k2
  have k3 := Flat_ok a (may_dle ham) haw
  rw [haf] at k3
  have k4 := Answers_ok k hkl (fun t ht => ⟨(hk.atk t ht).wf, (hk.atk t ht).may⟩) a haw ham
  refine AC_intro Tryz.func77 rfl Tryz.ntmps77 (Nat.le_of_ble_eq_true rfl) fun c hL hQ hDD => ?_; refine awp_seq ?_; refine awp_region ?_; refine awps_stp1 rfl rfl (by decide) (stp_box 3 rfl rfl rfl) rfl ?_; refine awps_stp0 rfl rfl (by decide) (stp_move (.inr rfl) rfl) ?_; refine awps_stp0 rfl rfl (by decide) (stp_move (.inr rfl) rfl) ?_; refine awps_nil ?_; refine thenQ_nil ?_
  refine awp_seq ?_; refine awp_seq ?_; refine awp_region ?_; refine awps_stp0 rfl rfl (by decide) (stp_move (.inl rfl) rfl) ?_; refine awps_call (avs := [_]) true rfl rfl rfl (by decide) en_known_Atoms rfl rfl (k1) rfl rfl ?_; refine awps_stp0 rfl rfl (by decide) (stp_not rfl rfl) ?_; refine awps_stp0 rfl rfl (by decide) (stp_move (.inl rfl) rfl) ?_; refine awps_split 9 rfl (fun g9 => ?_) (fun g9 => ?_)
  · try simp only [↓cqA, cqB] at g9
    refine awps_gs rfl rfl rfl rfl (by decide) rfl (by decide) ?_; refine awps_gs rfl rfl rfl rfl (by decide) rfl (by decide) ?_; refine awps_gs rfl rfl rfl rfl (by decide) rfl (by decide) ?_; refine awps_stp0 rfl rfl (by decide) (stp_pick rfl rfl rfl) ?_; refine awps_stp0 rfl rfl (by decide) (stp_move (.inl rfl) rfl) ?_; refine awps_gs rfl rfl rfl rfl (by decide) rfl (by decide) ?_
    refine awps_gs rfl rfl rfl rfl (by decide) rfl (by decide) ?_; refine awps_gs rfl rfl rfl rfl (by decide) rfl (by decide) ?_; refine awps_stp0 rfl rfl (by decide) (stp_pick rfl rfl rfl) ?_; refine awps_nil ?_; refine thenQ_nil ?_; refine awp_condT rfl ?_; refine awp_seq ?_; refine awp_region ?_; refine awps_stp0 rfl rfl (by decide) (stp_move (.inr rfl) rfl) ?_; refine awps_stp0 rfl rfl (by decide) (stp_move (.inr rfl) rfl) ?_; refine awps_nil ?_; refine thenQ_nil ?_; refine awp_ret ?_; refine thenQ_ret (?_)
    -- leaf g9T
    refine ret0 (noL hL) (.inl rfl) (resAs_tmp rfl (resAs_tmp rfl (resAs_nil))) ?_ ?_
    · rfl
    first
    | exact ⟨rfl, rfl⟩
    | exact absurd rfl (by assumption)
    | exact absurd trivial (by assumption)
    | exact absurd (show true = false by assumption) (by decide)
    | trace_state
  try simp only [↓cqA, cqB] at g9
  refine awps_g0 rfl rfl rfl (by decide) rfl (by decide) (stp_load_all rfl tf_api_Term rfl rfl rfl rfl) ?_; refine awps_g0 rfl rfl rfl (by decide) rfl (by decide) (stp_call (avs := [_]) true rfl en_term_May rfl rfl (k2) (fun _ => rfl) rfl) ?_; refine awps_g0 rfl rfl rfl (by decide) rfl (by decide) (stp_not rfl rfl) ?_; refine awps_stp0 rfl rfl (by decide) (stp_pick rfl rfl rfl) ?_; refine awps_stp0 rfl rfl (by decide) (stp_move (.inl rfl) rfl) ?_; refine awps_split 14 rfl (fun g14 => ?_) (fun g14 => ?_)
  · try simp only [↓cqA, cqB] at g14
    refine awps_gs rfl rfl rfl rfl (by decide) rfl (by decide) ?_; refine awps_gs rfl rfl rfl rfl (by decide) rfl (by decide) ?_; refine awps_gs rfl rfl rfl rfl (by decide) rfl (by decide) ?_; refine awps_stp0 rfl rfl (by decide) (stp_pick rfl rfl rfl) ?_; refine awps_nil ?_; refine thenQ_nil ?_; refine awp_condT rfl ?_; refine awp_seq ?_; refine awp_region ?_; refine awps_stp0 rfl rfl (by decide) (stp_move (.inr rfl) rfl) ?_; refine awps_stp0 rfl rfl (by decide) (stp_move (.inr rfl) rfl) ?_; refine awps_nil ?_; refine thenQ_nil ?_; refine awp_ret ?_; refine thenQ_ret (?_)
    -- leaf g9Fg14T
    refine ret0 (noL hL) (.inl rfl) (resAs_tmp rfl (resAs_tmp rfl (resAs_nil))) ?_ ?_
    · rfl
    first
    | exact ⟨rfl, rfl⟩
    | exact absurd rfl (by assumption)
    | exact absurd trivial (by assumption)
    | exact absurd (show true = false by assumption) (by decide)
    | trace_state
  try simp only [↓cqA, cqB] at g14
  refine awps_g0 rfl rfl rfl (by decide) rfl (by decide) (stp_load_all rfl tf_api_Term rfl rfl rfl rfl) ?_; refine awps_g0 rfl rfl rfl (by decide) rfl (by decide) (stp_call (avs := [_]) true rfl en_term_Flat rfl rfl (k3) (fun _ => rfl) rfl) ?_; refine awps_g0 rfl rfl rfl (by decide) rfl (by decide) (stp_not rfl rfl) ?_; refine awps_stp0 rfl rfl (by decide) (stp_pick rfl rfl rfl) ?_; refine awps_nil ?_; refine thenQ_nil ?_; refine awp_cond rfl (fun c0 => ?_) (fun c0 => ?_)
  · try simp only [↓cqA, cqB] at c0
    refine awp_seq ?_; refine awp_region ?_; refine awps_stp0 rfl rfl (by decide) (stp_move (.inr rfl) rfl) ?_; refine awps_stp0 rfl rfl (by decide) (stp_move (.inr rfl) rfl) ?_; refine awps_nil ?_; refine thenQ_nil ?_; refine awp_ret ?_; refine thenQ_ret (?_)
    -- leaf g9Fg14F0T
    refine ret0 (noL hL) (.inl rfl) (resAs_tmp rfl (resAs_tmp rfl (resAs_nil))) ?_ ?_
    · rfl
    first
    | exact ⟨rfl, rfl⟩
    | exact absurd rfl (by assumption)
    | exact absurd trivial (by assumption)
    | exact absurd (show true = false by assumption) (by decide)
    | trace_state
  try simp only [↓cqA, cqB] at c0
  refine awp_skip ?_; refine thenQ_nil ?_; refine awp_seq ?_; refine awp_region ?_; refine awps_stp0 rfl rfl (by decide) (stp_move (.inl rfl) rfl) ?_; refine awps_stp0 rfl rfl (by decide) (stp_load_all rfl tf_api_Term rfl rfl rfl rfl) ?_; refine awps_call (avs := [_, _]) false rfl rfl rfl (by decide) en_known_Answers rfl rfl (k4) rfl rfl ?_; refine awps_stp0 rfl rfl (by decide) (stp_move (.inr rfl) rfl) ?_; refine awps_stp0 rfl rfl (by decide) (stp_move (.inr rfl) rfl) ?_; refine awps_nil ?_; refine thenQ_nil ?_; refine awp_ret ?_
  -- leaf g9Fg14F0F
  refine ret0 (noL hL) (.inl rfl) (resAs_tmp rfl (resAs_tmp rfl (resAs_nil))) ?_ ?_
  · rfl
  first
  | exact ⟨rfl, rfl⟩
  | exact absurd rfl (by assumption)
  | exact absurd trivial (by assumption)
  | exact absurd (show true = false by assumption) (by decide)
  | trace_state
theorem ch_arith {n : Nat} (h2 : 2 ≤ n) (h6 : n ≤ 6) : ∃ q r : Nat, q ≤ 15 ∧ r ≤ 36 ∧ n * (n - 1) / 2 = q ∧ n * n = r ∧ (-9223372036854775808 ≤ (n : Int) * ((n : Int) - 1) ∧ (n : Int) * ((n : Int) - 1) ≤ 9223372036854775807) ∧ binI .quo .i64 ((n : Int) * ((n : Int) - 1)) 2 = some (.int .i64 (q : Int)) ∧ (n : Int) * (n : Int) = (r : Int) := by
  rcases (show n = 2 ∨ n = 3 ∨ n = 4 ∨ n = 5 ∨ n = 6 by omega) with rfl | rfl | rfl | rfl | rfl <;> exact ⟨_, _, by decide, by decide, rfl, rfl, by decide, rfl, rfl⟩
theorem chS_snoc (k : Nat) : chS (k + 1) = chS k ++ [chK k (k + 1)] := by simp [chS, List.range_succ]
theorem KnownChains_ok (p : Ask11) (hpw : p.wf) : PF 15 [.agg (lift false (a11D p))] (bv true) := by
  have hT := tmDs_length p.T
  have hKK := tmDs_length p.K
  obtain ⟨⟨hlC, hwC⟩, ⟨hlK, hwK⟩, hlT, hwT⟩ := id hpw
  simp only [lenOk] at hlK hlT
  have h61 : ∀ q : Cl, ∀ d ∈ [clD q], d.length = 6 := fun q d hd => by rw [List.mem_singleton.1 hd]; rfl
  refine AC_intro Tryz.func15 rfl Tryz.ntmps15 (Nat.le_of_ble_eq_true rfl) fun c hL hQ hDD => ?_; refine awp_seq ?_; refine awp_region ?_; refine awps_stp1 rfl rfl (by decide) (stp_box 1 rfl rfl rfl) rfl ?_; refine awps_stp0 rfl rfl (by decide) (stp_move (.inr rfl) rfl) ?_; refine awps_nil ?_; refine thenQ_nil ?_; refine awp_seq ?_; refine awp_region ?_; refine awps_stp0 rfl rfl (by decide) (stp_fieldAddr rfl fo_almagestlaw11_Ask_2 rfl) ?_; refine awps_stp0 rfl rfl (by decide) (stp_load rfl tf_S_api_Term rfl rfl rfl rfl rfl) ?_
  refine awps_stp0 rfl rfl (by decide) (stp_len_dat rfl sl_S_api_Term rfl) ?_; refine awps_stp0 rfl rfl (by decide) (stp_fieldAddr rfl fo_almagestlaw11_Ask_1 rfl) ?_; refine awps_stp0 rfl rfl (by decide) (stp_load rfl tf_S_api_Term rfl rfl rfl rfl rfl) ?_; refine awps_stp0 rfl rfl (by decide) (stp_len_dat rfl sl_S_api_Term rfl) ?_; refine awps_stp0 rfl rfl (by decide) (stp_add rfl rfl rfl (by omega)) ?_
  rw [show ((tmDs p.T).length : Int) + ((tmDs p.K).length : Int) = ((p.T.length + p.K.length : Nat) : Int) by omega]
  refine awps_call (avs := [_, _]) true rfl rfl rfl (by decide) en_almagestlaw0_Within rfl rfl (Within_ok (p.T.length + p.K.length) (by omega)) rfl rfl ?_; refine awps_stp0 rfl rfl (by decide) (stp_add rfl rfl rfl (by omega)) ?_; refine awps_stp0 rfl rfl (by decide) (stp_move (.inr rfl) rfl) ?_; refine awps_nil ?_; refine thenQ_nil ?_; refine awp_seq ?_
  obtain ⟨n, hn, h2, h6⟩ : ∃ n : Nat, (2 : Int) + (((p.T.length + p.K.length) % 5 : Nat) : Int) = (n : Int) ∧ 2 ≤ n ∧ n ≤ 6 := ⟨2 + (p.T.length + p.K.length) % 5, by omega, by omega, by omega⟩
  rw [hn]
  obtain ⟨K, hK, hKl, hKa, hKn, hAl, hAi, K2, hK2, hK2l⟩ := chain_law h2 h6
  obtain ⟨q, r, hq, hr, eq, er, hmb, hquo, hnn⟩ := ch_arith h2 h6
  rw [eq] at hKl
  rw [er] at hK2l
  have keyA := AC_rnE 0 6 (AllR_ok (chA n) (Nat.le_trans (chA_len h6) (by decide)) (fun q hq => (chA_w h6 q hq).1) (fun k hk => derL_small (fun q hq => (chA_w h6 q hq).2) (chA_len h6) hk))
  have keyB := AC_rnE 0 140 (AllR_ok (chB n) (Nat.le_trans (chB_len h6) (by decide)) (fun q hq => (chB_w h6 q hq).1) (fun k hk => derL_small (fun q hq => (chB_w h6 q hq).2) (chB_len h6) hk))
  rw [hK] at keyA
  rw [hK2] at keyB
  have keyQ := knownAsk_ok K hKn hKa chQ (wy_w (numT_w _ (by decide)) (varT_w _ (by decide))) (by decide +kernel) (by decide +kernel)
  have hdK := tmDs_length K
  have hdK2 := tmDs_length K2
  have hdA := bdlDs_length (ansL K chQ)
  refine awp_region ?_; refine awps_call (avs := [_]) false rfl rfl rfl (by decide) en_almagestlaw11_variable rfl rfl (variable11_ok sX) rfl rfl ?_; refine awps_call (avs := [_]) false rfl rfl rfl (by decide) en_almagestlaw11_variable rfl rfl (variable11_ok sY) rfl rfl ?_; refine awps_stp0 rfl rfl (by decide) (stp_buildSliceD false rfl sl_S_api_Term zv_api_Term rfl rfl (by decide) (by decide) (by decide) rfl rfl rfl rfl) ?_; refine awps_call (avs := [_, _]) false rfl rfl rfl (by decide) en_almagestlaw11_atom rfl rfl (atom11_ok ⟨#[119, 97, 121]⟩ [varT sX, varT sY] (by simp)) rfl rfl ?_
  refine awps_call (avs := [_]) false rfl rfl rfl (by decide) en_almagestlaw11_variable rfl rfl (variable11_ok sX) rfl rfl ?_; refine awps_call (avs := [_]) false rfl rfl rfl (by decide) en_almagestlaw11_variable rfl rfl (variable11_ok sY) rfl rfl ?_; refine awps_stp0 rfl rfl (by decide) (stp_buildSliceD false rfl sl_S_api_Term zv_api_Term rfl rfl (by decide) (by decide) (by decide) rfl rfl rfl rfl) ?_; refine awps_call (avs := [_, _]) false rfl rfl rfl (by decide) en_almagestlaw11_atom rfl rfl (atom11_ok ⟨#[115, 116, 101, 112]⟩ [varT sX, varT sY] (by simp)) rfl rfl ?_
  refine awps_stp0 rfl rfl (by decide) (stp_buildSliceD false rfl sl_S_api_Term zv_api_Term rfl rfl (by decide) (by decide) (by decide) rfl rfl rfl rfl) ?_; refine awps_stp0 rfl rfl (by decide) (stp_build rfl zv_api_Clause rfl pl_api_Clause rfl rfl) ?_; refine awps_sub (sub_le 31 rfl (body_le (wy (varT sX) (varT sY)) [stp (varT sX) (varT sY)])) ?_
  refine awps_stp1 rfl rfl (by decide) (stp_alloc 4 rfl zv_api_Clause rfl) rfl ?_; refine awps_store rfl rfl rfl tf_api_Clause rfl rfl rfl rfl rfl rfl rfl rfl rfl ?_; refine awps_nil ?_; refine thenQ_nil ?_; refine awp_seq ?_; refine awp_region ?_; refine awps_call (avs := [_]) false rfl rfl rfl (by decide) en_almagestlaw11_variable rfl rfl (variable11_ok sX) rfl rfl ?_
  refine awps_call (avs := [_]) false rfl rfl rfl (by decide) en_almagestlaw11_variable rfl rfl (variable11_ok sZ) rfl rfl ?_; refine awps_stp0 rfl rfl (by decide) (stp_buildSliceD false rfl sl_S_api_Term zv_api_Term rfl rfl (by decide) (by decide) (by decide) rfl rfl rfl rfl) ?_; refine awps_call (avs := [_, _]) false rfl rfl rfl (by decide) en_almagestlaw11_atom rfl rfl (atom11_ok ⟨#[119, 97, 121]⟩ [varT sX, varT sZ] (by simp)) rfl rfl ?_; refine awps_call (avs := [_]) false rfl rfl rfl (by decide) en_almagestlaw11_variable rfl rfl (variable11_ok sX) rfl rfl ?_
  refine awps_call (avs := [_]) false rfl rfl rfl (by decide) en_almagestlaw11_variable rfl rfl (variable11_ok sY) rfl rfl ?_; refine awps_stp0 rfl rfl (by decide) (stp_buildSliceD false rfl sl_S_api_Term zv_api_Term rfl rfl (by decide) (by decide) (by decide) rfl rfl rfl rfl) ?_; refine awps_call (avs := [_, _]) false rfl rfl rfl (by decide) en_almagestlaw11_atom rfl rfl (atom11_ok ⟨#[119, 97, 121]⟩ [varT sX, varT sY] (by simp)) rfl rfl ?_; refine awps_call (avs := [_]) false rfl rfl rfl (by decide) en_almagestlaw11_variable rfl rfl (variable11_ok sY) rfl rfl ?_
  refine awps_call (avs := [_]) false rfl rfl rfl (by decide) en_almagestlaw11_variable rfl rfl (variable11_ok sZ) rfl rfl ?_; refine awps_stp0 rfl rfl (by decide) (stp_buildSliceD false rfl sl_S_api_Term zv_api_Term rfl rfl (by decide) (by decide) (by decide) rfl rfl rfl rfl) ?_
  refine awps_call (avs := [_, _]) false rfl rfl rfl (by decide) en_almagestlaw11_atom rfl rfl (atom11_ok ⟨#[115, 116, 101, 112]⟩ [varT sY, varT sZ] (by simp)) rfl rfl ?_; refine awps_stp0 rfl rfl (by decide) (stp_buildSliceD false rfl sl_S_api_Term zv_api_Term rfl rfl (by decide) (by decide) (by decide) rfl rfl rfl rfl) ?_
  refine awps_stp0 rfl rfl (by decide) (stp_build rfl zv_api_Clause rfl pl_api_Clause rfl rfl) ?_; refine awps_sub (sub_le 45 rfl (body_le (wy (varT sX) (varT sZ)) [wy (varT sX) (varT sY), stp (varT sY) (varT sZ)])) ?_; refine awps_stp1 rfl rfl (by decide) (stp_alloc 5 rfl zv_api_Clause rfl) rfl ?_; refine awps_store rfl rfl rfl tf_api_Clause rfl rfl rfl rfl rfl rfl rfl rfl rfl ?_; refine awps_nil ?_; refine thenQ_nil ?_; refine awp_seq ?_; refine awp_region ?_; refine awps_stp0 rfl rfl (by decide) (stp_load_all rfl tf_api_Clause rfl rfl rfl rfl) ?_
  refine awps_stp0 rfl rfl (by decide) (stp_load_all rfl tf_api_Clause rfl rfl rfl rfl) ?_; refine awps_stp1 rfl rfl (by decide) (stp_buildSlice 48 rfl sl_S_api_Clause zv_api_Clause rfl rfl (by decide) (by decide) (by decide) rfl rfl rfl) rfl ?_; refine awps_rowd 48 false 2 rfl rfl rfl rfl ?_; refine awps_stp0 rfl rfl (by decide) (stp_move (.inr rfl) rfl) ?_; refine awps_nil ?_; refine thenQ_nil ?_; refine awp_seq ?_; refine awp_seq ?_; refine awp_region ?_
  refine awps_stp0 rfl rfl (by decide) (stp_move (.inr rfl) rfl) ?_; refine awps_nil ?_; refine thenQ_nil ?_; refine awp_block ?_; refine awp_while (n - 1) (fun k => k ≤ n - 1) (fun k => ⟨[(3, iv (n : Int)), (6, .row 6), (7, iv (k : Int))], [(6, .rowd 106 6 false (clDs ([chW, chM] ++ chS k)))]⟩) (by omega) ?_ (fun k hk hp => ?_)
  · exact Sub.trans (sub_rename 48 6 (noL hL _) (noL hL _)) (sub_re (SubT.cons (lk_eq rfl (by first | rfl | simp)) (SubT.cons (lk_eq rfl (by first | rfl | simp)) (SubT.cons (lk_eq rfl (by first | rfl | simp)) (SubT.nil)))) (SubO.cons (ok_eq rfl (by rfl)) (SubO.nil)) rfl rfl (noL' (noL hL) _))
  have hkl : (clDs ([chW, chM] ++ chS k)).length = k + 2 := by simp [clDs, chS]
  refine awp_seq ?_; refine awp_seq ?_; refine awp_region ?_; refine awps_stp0 rfl rfl (by decide) (stp_move (.inl rfl) rfl) ?_; refine awps_stp0 rfl rfl (by decide) (stp_add rfl rfl rfl (by omega)) ?_; refine awps_stp0 rfl rfl (by decide) (stp_move (.inl rfl) rfl) ?_; refine awps_stp0 rfl rfl (by decide) (stp_binI rfl rfl rfl rfl) ?_; refine awps_nil ?_; refine thenQ_nil ?_; refine awp_cond rfl (fun c0 => ?_) (fun c0 => ?_)
  · try simp only [↓cqA, cqB] at c0
    refine awp_skip ?_; refine thenQ_nil ?_; refine awp_seq ?_; refine awp_block ?_; refine awp_region ?_; refine awps_stp0 rfl rfl (by decide) (stp_move (.inl rfl) rfl) ?_; refine awps_stp0 rfl rfl (by decide) (stp_move (.inl rfl) rfl) ?_; refine awps_call (avs := [_]) false rfl rfl rfl (by decide) en_almagestlaw11_number rfl rfl (number11_ok (k : Int)) rfl rfl ?_
    refine awps_stp0 rfl rfl (by decide) (stp_move (.inl rfl) rfl) ?_; refine awps_stp0 rfl rfl (by decide) (stp_add rfl rfl rfl (by omega)) ?_; refine awps_call (avs := [_]) false rfl rfl rfl (by decide) en_almagestlaw11_number rfl rfl (number11_ok ((k : Int) + 1)) rfl rfl ?_
    refine awps_stp0 rfl rfl (by decide) (stp_buildSliceD false rfl sl_S_api_Term zv_api_Term rfl rfl (by decide) (by decide) (by decide) rfl rfl rfl rfl) ?_; refine awps_call (avs := [_, _]) false rfl rfl rfl (by decide) en_almagestlaw11_atom rfl rfl (atom11_ok ⟨#[115, 116, 101, 112]⟩ [numT (k : Int), numT ((k : Int) + 1)] (by simp)) rfl rfl ?_
    refine awps_stp0 rfl rfl (by decide) (stp_build rfl zv_api_Clause rfl pl_api_Clause rfl rfl) ?_; refine awps_sub (sub_le 63 rfl (head_le (stp (numT (k : Int)) (numT ((k : Int) + 1))))) ?_; refine awps_stp0 rfl rfl (by decide) (stp_buildSliceD false rfl sl_S_api_Clause zv_api_Clause rfl rfl (by decide) (by decide) (by decide) rfl rfl rfl rfl) ?_
    refine awps_append_src 65 ta_S_api_Clause rfl rfl (by decide) rfl rfl rfl (src_dat (es := [clD (chK k (k + 1))]) (h61 (chK k (k + 1))) rfl) rfl (h61 (chK k (k + 1))) (noL hL _) rfl (by rw [hkl]; simp; omega) rfl ?_; refine awps_stp0 rfl rfl (by decide) (stp_move (.inr rfl) rfl) ?_; refine awps_nil ?_; refine inQ_nil ?_; refine thenQ_nil ?_; refine awp_region ?_
    refine awps_stp0 rfl rfl (by decide) (stp_move (.inl rfl) rfl) ?_; refine awps_stp0 rfl rfl (by decide) (stp_add rfl rfl rfl (by omega)) ?_; refine awps_stp0 rfl rfl (by decide) (stp_move (.inr rfl) rfl) ?_; refine awps_nil ?_; refine thenQ_nil ?_; refine ⟨?_, ?_, ?_⟩
    · skip
      omega
    · skip
      omega
    exact Sub.trans (sub_rename 65 6 (noL hL _) (noL hL _)) (sub_re (SubT.cons (lk_eq rfl (by first | rfl | simp)) (SubT.cons (lk_eq rfl (by first | rfl | simp)) (SubT.cons (lk_eq rfl (by first | rfl | simp)) (SubT.nil)))) (SubO.cons (ok_eq rfl (by rw [chS_snoc, ← List.append_assoc, clDs_app ([chW, chM] ++ chS k)]; rfl)) (SubO.nil)) rfl rfl (noL' (noL hL) _))
  try simp only [↓cqA, cqB] at c0
  refine awp_exit ?_; refine thenQ_exit (thenQ_exit (inQ_hit ?_)); refine thenQ_nil ?_; refine awp_seq ?_
  have hkn : k = n - 1 := by omega
  subst hkn
  refine awp_region ?_; refine awps_stp0 rfl rfl (by decide) (stp_move (.inl rfl) rfl) ?_; refine awps_callP (avs := [_]) false rfl rfl rfl (by decide) en_known_All rfl rfl (keyA) (rfl) (passO (.cons rfl trivial rfl .nil)) (by rintro r O' ⟨_, rfl⟩; exact frB rfl) (by rintro h; cases h) ?_
  rintro r O' ⟨rfl, rfl⟩
  refine awps_stp0 rfl rfl (by decide) (stp_move (.inl rfl) rfl) ?_; refine awps_stp0 rfl rfl (by decide) (stp_extract rfl rfl rfl) ?_; refine awps_stp0 rfl rfl (by decide) (stp_extract rfl rfl rfl) ?_; refine awps_stp0 rfl rfl (by decide) (stp_move (.inr rfl) rfl) ?_; refine awps_stp0 rfl rfl (by decide) (stp_move (.inr rfl) rfl) ?_; refine awps_nil ?_; refine thenQ_nil ?_; refine awp_seq ?_
  refine awp_seq ?_; refine awp_region ?_; refine awps_stp0 rfl rfl (by decide) (stp_move (.inl rfl) rfl) ?_; refine awps_call (avs := [_]) true rfl rfl rfl (by decide) en_almagestlaw11_num rfl rfl (num11_ok _) rfl rfl ?_; refine awps_stp0 rfl rfl (by decide) (stp_binI rfl rfl rfl rfl) ?_; refine awps_stp0 rfl rfl (by decide) (stp_move (.inl rfl) rfl) ?_; refine awps_split 74 rfl (fun g74 => ?_) (fun g74 => ?_)
  · try simp only [↓cqA, cqB] at g74
    refine awps_gs rfl rfl rfl rfl (by decide) rfl (by decide) ?_; refine awps_gs rfl rfl rfl rfl (by decide) rfl (by decide) ?_; refine awps_gs rfl rfl rfl rfl (by decide) rfl (by decide) ?_; refine awps_gs rfl rfl rfl rfl (by decide) rfl (by decide) ?_; refine awps_gs rfl rfl rfl rfl (by decide) rfl (by decide) ?_; refine awps_gs rfl rfl rfl rfl (by decide) rfl (by decide) ?_
    refine awps_gs rfl rfl rfl rfl (by decide) rfl (by decide) ?_; refine awps_gs rfl rfl rfl rfl (by decide) rfl (by decide) ?_; refine awps_gs rfl rfl rfl rfl (by decide) rfl (by decide) ?_; refine awps_gs rfl rfl rfl rfl (by decide) rfl (by decide) ?_; refine awps_gs rfl rfl rfl rfl (by decide) rfl (by decide) ?_; refine awps_stp0 rfl rfl (by decide) (stp_pick rfl rfl rfl) ?_
    refine awps_nil ?_; refine thenQ_nil ?_; refine awp_condT rfl ?_; refine awp_seq ?_; refine awp_region ?_; refine awps_stp0 rfl rfl (by decide) (stp_move (.inr rfl) rfl) ?_; refine awps_nil ?_; refine thenQ_nil ?_; refine awp_ret ?_; refine thenQ_ret (?_)
    -- leaf 0Fg74T
    refine ret0 (noL hL) (.inl rfl) (resAs_tmp rfl (resAs_nil)) ?_ ?_
    · rfl
    first
    | exact ⟨rfl, rfl⟩
    | exact absurd trivial (by assumption)
    | exact absurd rfl (by assumption)
    | (exfalso; omega)
    | exact ⟨bool_w (by simp; omega), rfl⟩
    | trace_state
  try simp only [↓cqA, cqB] at g74
  refine awps_g0 rfl rfl rfl (by decide) rfl (by decide) (stp_move (.inl rfl) rfl) ?_; refine awps_g0 rfl rfl rfl (by decide) rfl (by decide) (stp_len_dat rfl sl_S_api_Term rfl) ?_; refine awps_g0 rfl rfl rfl (by decide) rfl (by decide) (stp_move (.inl rfl) rfl) ?_; refine awps_g0 rfl rfl rfl (by decide) rfl (by decide) (stp_sub rfl rfl rfl (by omega)) ?_; refine awps_g0 rfl rfl rfl (by decide) rfl (by decide) (stp_move (.inl rfl) rfl) ?_; refine awps_g0 rfl rfl rfl (by decide) rfl (by decide) (stp_move (.inl rfl) rfl) ?_
  refine awps_g0 rfl rfl rfl (by decide) rfl (by decide) (stp_sub rfl rfl rfl (by omega)) ?_; refine awps_g0 rfl rfl rfl (by decide) rfl (by decide) (stp_mul rfl rfl rfl (hmb)) ?_; refine awps_g0 rfl rfl rfl (by decide) rfl (by decide) (stp_binI (r := .int .i64 (q : Int)) rfl rfl rfl hquo) ?_; refine awps_g0 rfl rfl rfl (by decide) rfl (by decide) (stp_add rfl rfl rfl (by omega)) ?_
  refine awps_g0 rfl rfl rfl (by decide) rfl (by decide) (stp_binI rfl rfl rfl rfl) ?_; refine awps_stp0 rfl rfl (by decide) (stp_pick rfl rfl rfl) ?_; refine awps_nil ?_; refine thenQ_nil ?_; refine awp_cond rfl (fun c1 => ?_) (fun c1 => ?_)
  · try simp only [↓cqA, cqB] at c1
    refine awp_seq ?_; refine awp_region ?_; refine awps_stp0 rfl rfl (by decide) (stp_move (.inr rfl) rfl) ?_; refine awps_nil ?_; refine thenQ_nil ?_; refine awp_ret ?_; refine thenQ_ret (?_)
    -- leaf 0Fg74F1T
    refine ret0 (noL hL) (.inl rfl) (resAs_tmp rfl (resAs_nil)) ?_ ?_
    · rfl
    first
    | exact ⟨rfl, rfl⟩
    | exact absurd trivial (by assumption)
    | exact absurd rfl (by assumption)
    | (exfalso; omega)
    | exact ⟨bool_w (by simp; omega), rfl⟩
    | trace_state
  try simp only [↓cqA, cqB] at c1
  refine awp_skip ?_; refine thenQ_nil ?_; refine awp_seq ?_; refine awp_region ?_; refine awps_stp0 rfl rfl (by decide) (stp_move (.inl rfl) rfl) ?_; refine awps_call (avs := [_]) false rfl rfl rfl (by decide) en_almagestlaw11_number rfl rfl (number11_ok 0) rfl rfl ?_; refine awps_call (avs := [_]) false rfl rfl rfl (by decide) en_almagestlaw11_variable rfl rfl (variable11_ok sT) rfl rfl ?_
  refine awps_stp0 rfl rfl (by decide) (stp_buildSliceD false rfl sl_S_api_Term zv_api_Term rfl rfl (by decide) (by decide) (by decide) rfl rfl rfl rfl) ?_; refine awps_call (avs := [_, _]) false rfl rfl rfl (by decide) en_almagestlaw11_atom rfl rfl (atom11_ok ⟨#[119, 97, 121]⟩ [numT 0, varT sT] (by simp)) rfl rfl ?_
  refine awps_call (avs := [_, _]) false rfl rfl rfl (by decide) en_known_Ask rfl rfl (keyQ) rfl rfl ?_; refine awps_stp0 rfl rfl (by decide) (stp_move (.inl rfl) rfl) ?_; refine awps_stp0 rfl rfl (by decide) (stp_extract rfl rfl rfl) ?_; refine awps_stp0 rfl rfl (by decide) (stp_extract rfl rfl rfl) ?_; refine awps_stp0 rfl rfl (by decide) (stp_move (.inr rfl) rfl) ?_
  refine awps_stp0 rfl rfl (by decide) (stp_move (.inr rfl) rfl) ?_; refine awps_nil ?_; refine thenQ_nil ?_; refine awp_seq ?_; refine awp_seq ?_; refine awp_region ?_; refine awps_stp0 rfl rfl (by decide) (stp_move (.inl rfl) rfl) ?_; refine awps_call (avs := [_]) true rfl rfl rfl (by decide) en_almagestlaw11_num rfl rfl (num11_ok _) rfl rfl ?_; refine awps_stp0 rfl rfl (by decide) (stp_binI rfl rfl rfl rfl) ?_; refine awps_stp0 rfl rfl (by decide) (stp_move (.inl rfl) rfl) ?_; refine awps_split 99 rfl (fun g99 => ?_) (fun g99 => ?_)
  · try simp only [↓cqA, cqB] at g99
    refine awps_gs rfl rfl rfl rfl (by decide) rfl (by decide) ?_; refine awps_gs rfl rfl rfl rfl (by decide) rfl (by decide) ?_; refine awps_gs rfl rfl rfl rfl (by decide) rfl (by decide) ?_; refine awps_gs rfl rfl rfl rfl (by decide) rfl (by decide) ?_; refine awps_gs rfl rfl rfl rfl (by decide) rfl (by decide) ?_; refine awps_stp0 rfl rfl (by decide) (stp_pick rfl rfl rfl) ?_
    refine awps_nil ?_; refine thenQ_nil ?_; refine awp_condT rfl ?_; refine awp_seq ?_; refine awp_region ?_; refine awps_stp0 rfl rfl (by decide) (stp_move (.inr rfl) rfl) ?_; refine awps_nil ?_; refine thenQ_nil ?_; refine awp_ret ?_; refine thenQ_ret (?_)
    -- leaf 0Fg74F1Fg99T
    refine ret0 (noL hL) (.inl rfl) (resAs_tmp rfl (resAs_nil)) ?_ ?_
    · rfl
    first
    | exact ⟨rfl, rfl⟩
    | exact absurd trivial (by assumption)
    | exact absurd rfl (by assumption)
    | (exfalso; omega)
    | exact ⟨bool_w (by simp; omega), rfl⟩
    | trace_state
  try simp only [↓cqA, cqB] at g99
  refine awps_g0 rfl rfl rfl (by decide) rfl (by decide) (stp_move (.inl rfl) rfl) ?_; refine awps_g0 rfl rfl rfl (by decide) rfl (by decide) (stp_len_dat rfl sl_S_S_api_Bind rfl) ?_; refine awps_g0 rfl rfl rfl (by decide) rfl (by decide) (stp_move (.inl rfl) rfl) ?_; refine awps_g0 rfl rfl rfl (by decide) rfl (by decide) (stp_sub rfl rfl rfl (by omega)) ?_; refine awps_g0 rfl rfl rfl (by decide) rfl (by decide) (stp_binI rfl rfl rfl rfl) ?_; refine awps_stp0 rfl rfl (by decide) (stp_pick rfl rfl rfl) ?_; refine awps_nil ?_; refine thenQ_nil ?_
  refine awp_cond rfl (fun c2 => ?_) (fun c2 => ?_)
  · try simp only [↓cqA, cqB] at c2
    refine awp_seq ?_; refine awp_region ?_; refine awps_stp0 rfl rfl (by decide) (stp_move (.inr rfl) rfl) ?_; refine awps_nil ?_; refine thenQ_nil ?_; refine awp_ret ?_; refine thenQ_ret (?_)
    -- leaf 0Fg74F1Fg99F2T
    refine ret0 (noL hL) (.inl rfl) (resAs_tmp rfl (resAs_nil)) ?_ ?_
    · rfl
    first
    | exact ⟨rfl, rfl⟩
    | exact absurd trivial (by assumption)
    | exact absurd rfl (by assumption)
    | (exfalso; omega)
    | exact ⟨bool_w (by simp; omega), rfl⟩
    | trace_state
  try simp only [↓cqA, cqB] at c2
  refine awp_skip ?_; refine thenQ_nil ?_; refine awp_seq ?_; refine awp_seq ?_; refine awp_region ?_; refine awps_stp0 rfl rfl (by decide) (stp_move (.inr rfl) rfl) ?_; refine awps_nil ?_; refine thenQ_nil ?_; refine awp_block ?_; refine awp_while (n - 1) (fun j => j ≤ n - 1) (fun j => ⟨[(3, iv (n : Int)), (6, .row 6), (10, .dat false 1 (bdlDs (ansL K chQ))), (12, iv (j : Int))], [(6, .rowd 106 6 false (clDs ([chW, chM] ++ chS (n - 1))))]⟩) (by omega) ?_ (fun j hj hpj => ?_)
  · exact sub_re (SubT.cons (lk_eq rfl (by first | rfl | simp)) (SubT.cons (lk_eq rfl (by first | rfl | simp)) (SubT.cons (lk_eq rfl (by first | rfl | simp)) (SubT.cons (lk_eq rfl (by first | rfl | simp)) (SubT.nil))))) (SubO.cons (ok_eq rfl (by rfl)) (SubO.nil)) rfl rfl (noL' (noL hL) _)
  refine awp_seq ?_; refine awp_seq ?_; refine awp_region ?_; refine awps_stp0 rfl rfl (by decide) (stp_move (.inl rfl) rfl) ?_; refine awps_stp0 rfl rfl (by decide) (stp_move (.inl rfl) rfl) ?_; refine awps_stp0 rfl rfl (by decide) (stp_len_dat rfl sl_S_S_api_Bind rfl) ?_; refine awps_stp0 rfl rfl (by decide) (stp_binI rfl rfl rfl rfl) ?_; refine awps_nil ?_; refine thenQ_nil ?_; refine awp_cond rfl (fun c3 => ?_) (fun c3 => ?_)
  · try simp only [↓cqA, cqB] at c3
    obtain ⟨l, hl⟩ := get_of_lt (l := ansL K chQ) (k := j) (by omega)
    obtain ⟨b, rfl, hb⟩ := hAi j l hl
    refine awp_skip ?_; refine thenQ_nil ?_; refine awp_seq ?_; refine awp_block ?_; refine awp_seq ?_; refine awp_region ?_; refine awps_stp0 rfl rfl (by decide) (stp_move (.inl rfl) rfl) ?_; refine awps_stp0 rfl rfl (by decide) (stp_move (.inl rfl) rfl) ?_; refine awps_stp0 rfl rfl (by decide) (stp_indexAddr rfl sl_S_S_api_Bind rfl rfl (by omega) (bdlDs_get hl)) ?_; refine awps_stp0 rfl rfl (by decide) (stp_load_elp1 rfl tf_S_api_Bind rfl) ?_; refine awps_stp0 rfl rfl (by decide) (stp_len_dat rfl sl_S_api_Bind rfl) ?_
    refine awps_stp0 rfl rfl (by decide) (stp_binI rfl rfl rfl rfl) ?_; refine awps_stp0 rfl rfl (by decide) (stp_move (.inl rfl) rfl) ?_; refine awps_split 118 rfl (fun g118 => ?_) (fun g118 => ?_)
    · try simp only [↓cqA, cqB] at g118
      refine awps_gs rfl rfl rfl rfl (by decide) rfl (by decide) ?_; refine awps_gs rfl rfl rfl rfl (by decide) rfl (by decide) ?_; refine awps_gs rfl rfl rfl rfl (by decide) rfl (by decide) ?_; refine awps_gs rfl rfl rfl rfl (by decide) rfl (by decide) ?_; refine awps_gs rfl rfl rfl rfl (by decide) rfl (by decide) ?_; refine awps_gs rfl rfl rfl rfl (by decide) rfl (by decide) ?_
      refine awps_gs rfl rfl rfl rfl (by decide) rfl (by decide) ?_; refine awps_gs rfl rfl rfl rfl (by decide) rfl (by decide) ?_; refine awps_gs rfl rfl rfl rfl (by decide) rfl (by decide) ?_; refine awps_gs rfl rfl rfl rfl (by decide) rfl (by decide) ?_; refine awps_gs rfl rfl rfl rfl (by decide) rfl (by decide) ?_; refine awps_stp0 rfl rfl (by decide) (stp_pick rfl rfl rfl) ?_
      refine awps_nil ?_; refine thenQ_nil ?_; refine awp_condT rfl ?_; refine awp_seq ?_; refine awp_region ?_; refine awps_stp0 rfl rfl (by decide) (stp_move (.inr rfl) rfl) ?_; refine awps_nil ?_; refine thenQ_nil ?_; refine awp_ret ?_; refine inQ_ret (thenQ_ret (thenQ_ret (inQ_ret (thenQ_ret (?_)))))
      -- leaf 0Fg74F1Fg99F2F3Tg118T
      refine ret0 (noL hL) (.inl rfl) (resAs_tmp rfl (resAs_nil)) ?_ ?_
      · rfl
      first
      | exact ⟨rfl, rfl⟩
      | exact absurd trivial (by assumption)
      | exact absurd rfl (by assumption)
      | (exfalso; omega)
      | exact ⟨bool_w (by simp; omega), rfl⟩
      | trace_state
    try simp only [↓cqA, cqB] at g118
    refine awps_g0 rfl rfl rfl (by decide) rfl (by decide) (stp_move (.inl rfl) rfl) ?_; refine awps_g0 rfl rfl rfl (by decide) rfl (by decide) (stp_move (.inl rfl) rfl) ?_; refine awps_g0 rfl rfl rfl (by decide) rfl (by decide) (stp_indexAddr rfl sl_S_S_api_Bind rfl rfl (by omega) (bdlDs_get hl)) ?_; refine awps_g0 rfl rfl rfl (by decide) rfl (by decide) (stp_load_elp1 rfl tf_S_api_Bind rfl) ?_; refine awps_g0 rfl rfl rfl (by decide) rfl (by decide) (stp_indexAddr rfl sl_S_api_Bind rfl rfl (by decide) ((show (bdDs [b])[(0 : Int).toNat]? = some (bdD b) from rfl))) ?_
    refine awps_g0 rfl rfl rfl (by decide) rfl (by decide) (stp_fieldAddr_elp rfl fo_api_Bind_1 rfl) ?_; refine awps_g0 rfl rfl rfl (by decide) rfl (by decide) (stp_fieldAddr_elp rfl fo_api_Term_2 rfl) ?_; refine awps_g0 rfl rfl rfl (by decide) rfl (by decide) (stp_load_elp1 rfl tf_int rfl) ?_
    refine awps_g0 rfl rfl rfl (by decide) rfl (by decide) (stp_move (.inl rfl) rfl) ?_; refine awps_g0 rfl rfl rfl (by decide) rfl (by decide) (stp_add rfl rfl rfl (by omega)) ?_; refine awps_g0 rfl rfl rfl (by decide) rfl (by decide) (stp_binI rfl rfl rfl rfl) ?_; refine awps_stp0 rfl rfl (by decide) (stp_pick rfl rfl rfl) ?_; refine awps_nil ?_; refine thenQ_nil ?_; refine awp_cond rfl (fun c4 => ?_) (fun c4 => ?_)
    · try simp only [↓cqA, cqB] at c4
      refine awp_seq ?_; refine awp_region ?_; refine awps_stp0 rfl rfl (by decide) (stp_move (.inr rfl) rfl) ?_; refine awps_nil ?_; refine thenQ_nil ?_; refine awp_ret ?_; refine inQ_ret (thenQ_ret (thenQ_ret (inQ_ret (thenQ_ret (?_)))))
      -- leaf 0Fg74F1Fg99F2F3Tg118F4T
      refine ret0 (noL hL) (.inl rfl) (resAs_tmp rfl (resAs_nil)) ?_ ?_
      · rfl
      first
      | exact ⟨rfl, rfl⟩
      | exact absurd trivial (by assumption)
      | exact absurd rfl (by assumption)
      | (exfalso; omega)
      | exact ⟨bool_w (by simp; omega), rfl⟩
      | trace_state
    try simp only [↓cqA, cqB] at c4
    refine awp_skip ?_; refine inQ_nil ?_; refine thenQ_nil ?_; refine awp_region ?_; refine awps_stp0 rfl rfl (by decide) (stp_move (.inl rfl) rfl) ?_; refine awps_stp0 rfl rfl (by decide) (stp_add rfl rfl rfl (by omega)) ?_; refine awps_stp0 rfl rfl (by decide) (stp_move (.inr rfl) rfl) ?_; refine awps_nil ?_; refine thenQ_nil ?_; refine ⟨?_, ?_, ?_⟩
    · skip
      omega
    · skip
      omega
    exact sub_re (SubT.cons (lk_eq rfl (by first | rfl | simp)) (SubT.cons (lk_eq rfl (by first | rfl | simp)) (SubT.cons (lk_eq rfl (by first | rfl | simp)) (SubT.cons (lk_eq rfl (by first | rfl | simp)) (SubT.nil))))) (SubO.cons (ok_eq rfl (by rfl)) (SubO.nil)) rfl rfl (noL' (noL hL) _)
  try simp only [↓cqA, cqB] at c3
  refine awp_exit ?_; refine thenQ_exit (thenQ_exit (inQ_hit ?_)); refine thenQ_nil ?_; refine awp_seq ?_; refine awp_region ?_; refine awps_stp0 rfl rfl (by decide) (stp_move (.inl rfl) rfl) ?_; refine awps_stp0 rfl rfl (by decide) (stp_move (.inl rfl) rfl) ?_; refine awps_stp0 rfl rfl (by decide) (stp_sub rfl rfl rfl (by omega)) ?_
  rw [show (n : Int) - 1 = ((n - 1 : Nat) : Int) by omega]
  refine awps_call (avs := [_]) false rfl rfl rfl (by decide) en_almagestlaw11_number rfl rfl (number11_ok ((n - 1 : Nat) : Int)) rfl rfl ?_; refine awps_call (avs := [_]) false rfl rfl rfl (by decide) en_almagestlaw11_number rfl rfl (number11_ok 0) rfl rfl ?_
  refine awps_stp0 rfl rfl (by decide) (stp_buildSliceD false rfl sl_S_api_Term zv_api_Term rfl rfl (by decide) (by decide) (by decide) rfl rfl rfl rfl) ?_; refine awps_call (avs := [_, _]) false rfl rfl rfl (by decide) en_almagestlaw11_atom rfl rfl (atom11_ok ⟨#[115, 116, 101, 112]⟩ [numT ((n - 1 : Nat) : Int), numT 0] (by simp)) rfl rfl ?_
  refine awps_stp0 rfl rfl (by decide) (stp_build rfl zv_api_Clause rfl pl_api_Clause rfl rfl) ?_; refine awps_sub (sub_le 138 rfl (head_le (stp (numT ((n - 1 : Nat) : Int)) (numT 0)))) ?_; refine awps_stp0 rfl rfl (by decide) (stp_buildSliceD false rfl sl_S_api_Clause zv_api_Clause rfl rfl (by decide) (by decide) (by decide) rfl rfl rfl rfl) ?_
  refine awps_append_src 140 ta_S_api_Clause rfl rfl (by decide) rfl rfl rfl (src_dat (es := [clD (chK (n - 1) 0)]) (h61 (chK (n - 1) 0)) rfl) rfl (h61 (chK (n - 1) 0)) (noL hL _) rfl (by simp [clDs, chS]; omega) rfl ?_; refine awps_stp0 rfl rfl (by decide) (stp_move (.inr rfl) rfl) ?_; refine awps_nil ?_; refine thenQ_nil ?_; refine awp_seq ?_
  rw [show clDs ([chW, chM] ++ chS (n - 1)) ++ [clD (chK (n - 1) 0)] = clDs (chB n) from (clDs_app ([chW, chM] ++ chS (n - 1)) [chK (n - 1) 0]).symm]
  refine awp_region ?_; refine awps_stp0 rfl rfl (by decide) (stp_move (.inl rfl) rfl) ?_; refine awps_callP (avs := [_]) false rfl rfl rfl (by decide) en_known_All rfl rfl (keyB) (rfl) (passO (.cons rfl trivial rfl .nil)) (by rintro r O' ⟨_, rfl⟩; exact frB rfl) (by rintro h; cases h) ?_
  rintro r O' ⟨rfl, rfl⟩
  refine awps_stp0 rfl rfl (by decide) (stp_move (.inl rfl) rfl) ?_; refine awps_stp0 rfl rfl (by decide) (stp_extract rfl rfl rfl) ?_; refine awps_stp0 rfl rfl (by decide) (stp_extract rfl rfl rfl) ?_; refine awps_stp0 rfl rfl (by decide) (stp_move (.inr rfl) rfl) ?_; refine awps_stp0 rfl rfl (by decide) (stp_move (.inr rfl) rfl) ?_; refine awps_nil ?_; refine thenQ_nil ?_; refine awp_seq ?_
  refine awp_region ?_; refine awps_stp0 rfl rfl (by decide) (stp_move (.inl rfl) rfl) ?_; refine awps_call (avs := [_]) true rfl rfl rfl (by decide) en_almagestlaw11_num rfl rfl (num11_ok _) rfl rfl ?_; refine awps_stp0 rfl rfl (by decide) (stp_binI rfl rfl rfl rfl) ?_; refine awps_stp0 rfl rfl (by decide) (stp_move (.inl rfl) rfl) ?_; refine awps_split 149 rfl (fun g149 => ?_) (fun g149 => ?_)
  · try simp only [↓cqA, cqB] at g149
    refine awps_g0 rfl rfl rfl (by decide) rfl (by decide) (stp_move (.inl rfl) rfl) ?_; refine awps_g0 rfl rfl rfl (by decide) rfl (by decide) (stp_len_dat rfl sl_S_api_Term rfl) ?_; refine awps_g0 rfl rfl rfl (by decide) rfl (by decide) (stp_move (.inl rfl) rfl) ?_; refine awps_g0 rfl rfl rfl (by decide) rfl (by decide) (stp_move (.inl rfl) rfl) ?_; refine awps_g0 rfl rfl rfl (by decide) rfl (by decide) (stp_move (.inl rfl) rfl) ?_; refine awps_g0 rfl rfl rfl (by decide) rfl (by decide) (stp_mul rfl rfl rfl (by omega)) ?_
    refine awps_g0 rfl rfl rfl (by decide) rfl (by decide) (stp_add rfl rfl rfl (by omega)) ?_; refine awps_g0 rfl rfl rfl (by decide) rfl (by decide) (stp_binI rfl rfl rfl rfl) ?_; refine awps_stp0 rfl rfl (by decide) (stp_pick rfl rfl rfl) ?_; refine awps_stp0 rfl rfl (by decide) (stp_move (.inl rfl) rfl) ?_; refine awps_split 159 rfl (fun g159 => ?_) (fun g159 => ?_)
    · try simp only [↓cqA, cqB] at g159
      refine awps_g0 rfl rfl rfl (by decide) rfl (by decide) (stp_call (avs := []) true rfl en_almagestlaw11_wakes rfl rfl (wakes11_ok) (fun _ => rfl) rfl) ?_; refine awps_stp0 rfl rfl (by decide) (stp_pick rfl rfl rfl) ?_; refine awps_stp0 rfl rfl (by decide) (stp_move (.inr rfl) rfl) ?_; refine awps_nil ?_; refine thenQ_nil ?_; refine awp_ret ?_
      -- leaf 0Fg74F1Fg99F2F3Fg149Tg159T
      refine ret0 (noL hL) (.inl rfl) (resAs_tmp rfl (resAs_nil)) ?_ ?_
      · rfl
      first
      | exact ⟨rfl, rfl⟩
      | exact absurd trivial (by assumption)
      | exact absurd rfl (by assumption)
      | (exfalso; omega)
      | exact ⟨bool_w (by simp; omega), rfl⟩
      | trace_state
    try simp only [↓cqA, cqB] at g159
    refine awps_gs rfl rfl rfl rfl (by decide) rfl (by decide) ?_; refine awps_stp0 rfl rfl (by decide) (stp_pick rfl rfl rfl) ?_; refine awps_stp0 rfl rfl (by decide) (stp_move (.inr rfl) rfl) ?_; refine awps_nil ?_; refine thenQ_nil ?_; refine awp_ret ?_
    -- leaf 0Fg74F1Fg99F2F3Fg149Tg159F
    refine ret0 (noL hL) (.inl rfl) (resAs_tmp rfl (resAs_nil)) ?_ ?_
    · rfl
    first
    | exact ⟨rfl, rfl⟩
    | exact absurd trivial (by assumption)
    | exact absurd rfl (by assumption)
    | (exfalso; omega)
    | exact ⟨bool_w (by simp; omega), rfl⟩
    | trace_state
  try simp only [↓cqA, cqB] at g149
  refine awps_gs rfl rfl rfl rfl (by decide) rfl (by decide) ?_; refine awps_gs rfl rfl rfl rfl (by decide) rfl (by decide) ?_; refine awps_gs rfl rfl rfl rfl (by decide) rfl (by decide) ?_; refine awps_gs rfl rfl rfl rfl (by decide) rfl (by decide) ?_; refine awps_gs rfl rfl rfl rfl (by decide) rfl (by decide) ?_; refine awps_gs rfl rfl rfl rfl (by decide) rfl (by decide) ?_
  refine awps_gs rfl rfl rfl rfl (by decide) rfl (by decide) ?_; refine awps_gs rfl rfl rfl rfl (by decide) rfl (by decide) ?_; refine awps_stp0 rfl rfl (by decide) (stp_pick rfl rfl rfl) ?_; refine awps_stp0 rfl rfl (by decide) (stp_move (.inl rfl) rfl) ?_; refine awps_gs rfl rfl rfl rfl (by decide) rfl (by decide) ?_; refine awps_stp0 rfl rfl (by decide) (stp_pick rfl rfl rfl) ?_; refine awps_stp0 rfl rfl (by decide) (stp_move (.inr rfl) rfl) ?_; refine awps_nil ?_; refine thenQ_nil ?_; refine awp_ret ?_
  -- leaf 0Fg74F1Fg99F2F3Fg149F
  refine ret0 (noL hL) (.inl rfl) (resAs_tmp rfl (resAs_nil)) ?_ ?_
  · rfl
  first
  | exact ⟨rfl, rfl⟩
  | exact absurd trivial (by assumption)
  | exact absurd rfl (by assumption)
  | (exfalso; omega)
  | exact ⟨bool_w (by simp; omega), rfl⟩
  | trace_state
end Go.Proofs.YtdecgkhdbfgldaaGreat
