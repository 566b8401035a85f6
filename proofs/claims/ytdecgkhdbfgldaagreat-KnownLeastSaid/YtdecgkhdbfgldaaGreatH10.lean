/- Part 10 of the proof: Ka, Kb, Gq, Kc, Gr, Gw, Gy, Ja, Kd, Srtt. -/
import Derived.Test.YtdecgkhdbfgldaaGreatH9
import Derived.Shelf.SlSortCmp.NoneTotal
import Derived.Shelf.SlGeneric
import Derived.Ground.SlsfProg
import Derived.Test.YtdecgkhdbfgldaaGreatProg
set_option linter.unusedVariables false
set_option linter.unusedSimpArgs false
set_option maxRecDepth 8000
namespace Go.Proofs.YtdecgkhdbfgldaaGreat
open Go Go.Maps
theorem cont_all {X : Type} {l : List X} {p : X → Bool} {P' : Nat → Bool} (he : ∀ j x, l[j]? = some x → P' j = !(p x)) {m n : Nat} {b : Bool} (hf : ∀ j, j < m → P' j = false) (hc : (m < l.length ∧ P' m = true ∧ b = true ∧ n = m + 1) ∨ (m = l.length ∧ b = false ∧ n = m)) : b = !(l.all p) := by
  rcases hc with ⟨h1, h2, rfl, _⟩ | ⟨h1, rfl, _⟩
  · obtain ⟨x, hx⟩ := get_of_lt (l := l) (k := m) h1
    rw [he m x hx] at h2
    symm; rw [Bool.not_eq_true']
    exact List.all_eq_false.2 ⟨x, List.mem_of_getElem? hx, by simpa using h2⟩
  · symm; rw [Bool.not_eq_false']
    refine List.all_eq_true.2 fun x hx => ?_
    obtain ⟨j, hj⟩ := List.getElem?_of_mem hx
    have := hf j (by rw [h1]; exact (List.getElem?_eq_some_iff.1 hj).1)
    rw [he j x hj] at this
    simpa using this
abbrev clA (c : Cl) : AV := .agg (lift false (clD c))
def atomB (t : Tm) : Bool := mayT t && flatB t
def clauseB (c : Cl) : Bool := atomB c.head && decide (c.body.length ≤ 3) && decide (c.guards.length ≤ 4) && c.body.all atomB && c.guards.all cmpsB
theorem showClause1_ok (t : Tm) (ht : t.wf) : PF 267 [tmA false t] (bv (!(atomB t))) := by
  refine AC_intro Tryz.func267 rfl Tryz.ntmps267 (Nat.le_of_ble_eq_true rfl) fun c hL hQ hDD => ?_; refine awp_seq ?_; refine awp_region ?_; refine awps_stp1 rfl rfl (by decide) (stp_box 1 rfl rfl rfl) rfl ?_; refine awps_stp0 rfl rfl (by decide) (stp_move (.inr rfl) rfl) ?_; refine awps_nil ?_; refine thenQ_nil ?_; refine awp_seq ?_; refine awp_region ?_
  first | refine awps_stp0 rfl rfl (by decide) (stp_load_all rfl tf_api_Term rfl rfl rfl rfl) ?_ | refine awps_stp0 rfl rfl (by decide) (stp_load rfl tf_api_Term rfl rfl rfl rfl rfl) ?_ | refine awps_stp0 rfl rfl (by decide) (stp_load_elpa rfl tf_api_Term rfl rfl) ?_ | refine awps_stp0 rfl rfl (by decide) (stp_load_elpn rfl tf_api_Term rfl rfl rfl) ?_
  refine awps_call (avs := [_]) true rfl rfl rfl (by decide) en_show_atom rfl rfl (showAtom_ok t ht) rfl rfl ?_; refine awps_stp0 rfl rfl (by decide) (stp_not rfl rfl) ?_; refine awps_stp0 rfl rfl (by decide) (stp_move (.inr rfl) rfl) ?_; refine awps_nil ?_; refine thenQ_nil ?_; refine awp_ret ?_
  -- leaf 
  refine ret0 (noL hL) (.inl rfl) (resAs_tmp rfl (resAs_nil)) ?_ ?_
  · rfl
  exact ⟨rfl, rfl⟩
theorem showClause2_ok (g : Gd) (hg : g.wf) : PF 268 [.agg (lift false (gdD g))] (bv (!(cmpsB g))) := by
  refine AC_intro Tryz.func268 rfl Tryz.ntmps268 (Nat.le_of_ble_eq_true rfl) fun c hL hQ hDD => ?_; refine awp_seq ?_; refine awp_region ?_; refine awps_stp1 rfl rfl (by decide) (stp_box 1 rfl rfl rfl) rfl ?_; refine awps_stp0 rfl rfl (by decide) (stp_move (.inr rfl) rfl) ?_; refine awps_nil ?_; refine thenQ_nil ?_; refine awp_seq ?_; refine awp_region ?_
  first | refine awps_stp0 rfl rfl (by decide) (stp_load_all rfl tf_api_Guard rfl rfl rfl rfl) ?_ | refine awps_stp0 rfl rfl (by decide) (stp_load rfl tf_api_Guard rfl rfl rfl rfl rfl) ?_ | refine awps_stp0 rfl rfl (by decide) (stp_load_elpa rfl tf_api_Guard rfl rfl) ?_ | refine awps_stp0 rfl rfl (by decide) (stp_load_elpn rfl tf_api_Guard rfl rfl rfl) ?_
  refine awps_call (avs := [_]) true rfl rfl rfl (by decide) en_show_compares rfl rfl (showCompares_ok g hg) rfl rfl ?_; refine awps_stp0 rfl rfl (by decide) (stp_not rfl rfl) ?_; refine awps_stp0 rfl rfl (by decide) (stp_move (.inr rfl) rfl) ?_; refine awps_nil ?_; refine thenQ_nil ?_; refine awp_ret ?_
  -- leaf 
  refine ret0 (noL hL) (.inl rfl) (resAs_tmp rfl (resAs_nil)) ?_ ?_
  · rfl
  exact ⟨rfl, rfl⟩
theorem showClause_ok (q : Cl) (hc : q.wf) : PF 237 [clA q] (bv (clauseB q)) := by
  obtain ⟨hh, ⟨hbl, hbw⟩, hgl, hgw⟩ := id hc
  have hlb := tmDs_length q.body
  have hlg := gdDs_length q.guards
  simp only [lenOk] at hbl hgl
  refine AC_intro Tryz.func237 rfl Tryz.ntmps237 (Nat.le_of_ble_eq_true rfl) fun c hL hQ hDD => ?_; refine awp_seq ?_; refine awp_region ?_; refine awps_stp1 rfl rfl (by decide) (stp_box 1 rfl rfl rfl) rfl ?_; refine awps_stp0 rfl rfl (by decide) (stp_move (.inr rfl) rfl) ?_; refine awps_nil ?_; refine thenQ_nil ?_; refine awp_seq ?_; refine awp_seq ?_; refine awp_region ?_
  first | refine awps_stp0 rfl rfl (by decide) (stp_fieldAddr rfl fo_api_Clause_0 rfl) ?_ | refine awps_stp0 rfl rfl (by decide) (stp_fieldAddr_elp rfl fo_api_Clause_0 rfl) ?_
  first | refine awps_stp0 rfl rfl (by decide) (stp_load_all rfl tf_api_Term rfl rfl rfl rfl) ?_ | refine awps_stp0 rfl rfl (by decide) (stp_load rfl tf_api_Term rfl rfl rfl rfl rfl) ?_ | refine awps_stp0 rfl rfl (by decide) (stp_load_elpa rfl tf_api_Term rfl rfl) ?_ | refine awps_stp0 rfl rfl (by decide) (stp_load_elpn rfl tf_api_Term rfl rfl rfl) ?_
  refine awps_call (avs := [_]) true rfl rfl rfl (by decide) en_show_atom rfl rfl (showAtom_ok q.head hh) rfl rfl ?_; refine awps_stp0 rfl rfl (by decide) (stp_not rfl rfl) ?_; refine awps_stp0 rfl rfl (by decide) (stp_move (.inl rfl) rfl) ?_; refine awps_split 7 rfl (fun g7 => ?_) (fun g7 => ?_)
  · try simp only [↓cqA, cqB] at g7
    refine awps_gs rfl rfl rfl rfl (by decide) rfl (by decide) ?_; refine awps_gs rfl rfl rfl rfl (by decide) rfl (by decide) ?_; refine awps_gs rfl rfl rfl rfl (by decide) rfl (by decide) ?_; refine awps_gs rfl rfl rfl rfl (by decide) rfl (by decide) ?_; refine awps_stp0 rfl rfl (by decide) (stp_pick rfl rfl rfl) ?_; refine awps_stp0 rfl rfl (by decide) (stp_move (.inl rfl) rfl) ?_
    refine awps_gs rfl rfl rfl rfl (by decide) rfl (by decide) ?_; refine awps_gs rfl rfl rfl rfl (by decide) rfl (by decide) ?_; refine awps_gs rfl rfl rfl rfl (by decide) rfl (by decide) ?_; refine awps_gs rfl rfl rfl rfl (by decide) rfl (by decide) ?_; refine awps_stp0 rfl rfl (by decide) (stp_pick rfl rfl rfl) ?_; refine awps_nil ?_; refine thenQ_nil ?_; refine awp_condT rfl ?_
    refine awp_seq ?_; refine awp_region ?_; refine awps_stp0 rfl rfl (by decide) (stp_move (.inr rfl) rfl) ?_; refine awps_nil ?_; refine thenQ_nil ?_; refine awp_ret ?_; refine thenQ_ret (?_)
    -- leaf g7T
    refine ret0 (noL hL) (.inl rfl) (resAs_tmp rfl (resAs_nil)) ?_ ?_
    · rfl
    refine ⟨bool_w ?_, rfl⟩
    first
      | (rw [hb2, clauseB, atomB, g7, decide_eq_true (show q.body.length ≤ 3 by omega), decide_eq_true (show q.guards.length ≤ 4 by omega), show q.body.all atomB = true by rw [hb1] at g23; simpa using g23]; simp; done)
      | (rw [clauseB, show q.body.all atomB = false by rw [hb1] at g23; simpa using g23]; simp; done)
      | (rw [clauseB, show atomB q.head = false by rw [atomB]; assumption]; simp; done)
      | (simp_all [clauseB, atomB]; done)
      | (rw [clauseB, decide_eq_false (show ¬ q.body.length ≤ 3 by omega)]; simp; done)
      | (rw [clauseB, decide_eq_false (show ¬ q.guards.length ≤ 4 by omega)]; simp; done)
      | trace_state
  try simp only [↓cqA, cqB] at g7
  first | refine awps_g0 rfl rfl rfl (by decide) rfl (by decide) (stp_fieldAddr rfl fo_api_Clause_1 rfl) ?_ | refine awps_g0 rfl rfl rfl (by decide) rfl (by decide) (stp_fieldAddr_elp rfl fo_api_Clause_1 rfl) ?_
  first | refine awps_g0 rfl rfl rfl (by decide) rfl (by decide) (stp_load rfl tf_S_api_Term rfl rfl rfl rfl rfl) ?_ | refine awps_g0 rfl rfl rfl (by decide) rfl (by decide) (stp_load_elp1 rfl tf_S_api_Term rfl) ?_ | refine awps_g0 rfl rfl rfl (by decide) rfl (by decide) (stp_load_elpn rfl tf_S_api_Term rfl rfl rfl) ?_
  first | refine awps_g0 rfl rfl rfl (by decide) rfl (by decide) (stp_len_dat rfl sl_S_api_Term rfl) ?_ | refine awps_g0 rfl rfl rfl (by decide) rfl (by decide) (stp_len_rowd rfl sl_S_api_Term rfl rfl) ?_ | refine awps_g0 rfl rfl rfl (by decide) rfl (by decide) (stp_len_nil rfl sl_S_api_Term rfl) ?_ | refine awps_g0 rfl rfl rfl (by decide) rfl (by decide) (stp_len_vw rfl sl_S_api_Term rfl) ?_
  refine awps_g0 rfl rfl rfl (by decide) rfl (by decide) (stp_binI rfl rfl rfl rfl) ?_; refine awps_stp0 rfl rfl (by decide) (stp_pick rfl rfl rfl) ?_; refine awps_stp0 rfl rfl (by decide) (stp_move (.inl rfl) rfl) ?_; refine awps_split 13 rfl (fun g13 => ?_) (fun g13 => ?_)
  · try simp only [↓cqA, cqB] at g13
    refine awps_gs rfl rfl rfl rfl (by decide) rfl (by decide) ?_; refine awps_gs rfl rfl rfl rfl (by decide) rfl (by decide) ?_; refine awps_gs rfl rfl rfl rfl (by decide) rfl (by decide) ?_; refine awps_gs rfl rfl rfl rfl (by decide) rfl (by decide) ?_; refine awps_stp0 rfl rfl (by decide) (stp_pick rfl rfl rfl) ?_; refine awps_nil ?_; refine thenQ_nil ?_; refine awp_condT rfl ?_
    refine awp_seq ?_; refine awp_region ?_; refine awps_stp0 rfl rfl (by decide) (stp_move (.inr rfl) rfl) ?_; refine awps_nil ?_; refine thenQ_nil ?_; refine awp_ret ?_; refine thenQ_ret (?_)
    -- leaf g7Fg13T
    refine ret0 (noL hL) (.inl rfl) (resAs_tmp rfl (resAs_nil)) ?_ ?_
    · rfl
    refine ⟨bool_w ?_, rfl⟩
    first
      | (rw [hb2, clauseB, atomB, g7, decide_eq_true (show q.body.length ≤ 3 by omega), decide_eq_true (show q.guards.length ≤ 4 by omega), show q.body.all atomB = true by rw [hb1] at g23; simpa using g23]; simp; done)
      | (rw [clauseB, show q.body.all atomB = false by rw [hb1] at g23; simpa using g23]; simp; done)
      | (rw [clauseB, show atomB q.head = false by rw [atomB]; assumption]; simp; done)
      | (simp_all [clauseB, atomB]; done)
      | (rw [clauseB, decide_eq_false (show ¬ q.body.length ≤ 3 by omega)]; simp; done)
      | (rw [clauseB, decide_eq_false (show ¬ q.guards.length ≤ 4 by omega)]; simp; done)
      | trace_state
  try simp only [↓cqA, cqB] at g13
  first | refine awps_g0 rfl rfl rfl (by decide) rfl (by decide) (stp_fieldAddr rfl fo_api_Clause_2 rfl) ?_ | refine awps_g0 rfl rfl rfl (by decide) rfl (by decide) (stp_fieldAddr_elp rfl fo_api_Clause_2 rfl) ?_
  first | refine awps_g0 rfl rfl rfl (by decide) rfl (by decide) (stp_load rfl tf_S_api_Guard rfl rfl rfl rfl rfl) ?_ | refine awps_g0 rfl rfl rfl (by decide) rfl (by decide) (stp_load_elp1 rfl tf_S_api_Guard rfl) ?_ | refine awps_g0 rfl rfl rfl (by decide) rfl (by decide) (stp_load_elpn rfl tf_S_api_Guard rfl rfl rfl) ?_
  first | refine awps_g0 rfl rfl rfl (by decide) rfl (by decide) (stp_len_dat rfl sl_S_api_Guard rfl) ?_ | refine awps_g0 rfl rfl rfl (by decide) rfl (by decide) (stp_len_rowd rfl sl_S_api_Guard rfl rfl) ?_ | refine awps_g0 rfl rfl rfl (by decide) rfl (by decide) (stp_len_nil rfl sl_S_api_Guard rfl) ?_ | refine awps_g0 rfl rfl rfl (by decide) rfl (by decide) (stp_len_vw rfl sl_S_api_Guard rfl) ?_
  refine awps_g0 rfl rfl rfl (by decide) rfl (by decide) (stp_binI rfl rfl rfl rfl) ?_; refine awps_stp0 rfl rfl (by decide) (stp_pick rfl rfl rfl) ?_; refine awps_nil ?_; refine thenQ_nil ?_; refine awp_cond rfl (fun c0 => ?_) (fun c0 => ?_)
  · try simp only [↓cqA, cqB] at c0
    refine awp_seq ?_; refine awp_region ?_; refine awps_stp0 rfl rfl (by decide) (stp_move (.inr rfl) rfl) ?_; refine awps_nil ?_; refine thenQ_nil ?_; refine awp_ret ?_; refine thenQ_ret (?_)
    -- leaf g7Fg13F0T
    refine ret0 (noL hL) (.inl rfl) (resAs_tmp rfl (resAs_nil)) ?_ ?_
    · rfl
    refine ⟨bool_w ?_, rfl⟩
    first
      | (rw [hb2, clauseB, atomB, g7, decide_eq_true (show q.body.length ≤ 3 by omega), decide_eq_true (show q.guards.length ≤ 4 by omega), show q.body.all atomB = true by rw [hb1] at g23; simpa using g23]; simp; done)
      | (rw [clauseB, show q.body.all atomB = false by rw [hb1] at g23; simpa using g23]; simp; done)
      | (rw [clauseB, show atomB q.head = false by rw [atomB]; assumption]; simp; done)
      | (simp_all [clauseB, atomB]; done)
      | (rw [clauseB, decide_eq_false (show ¬ q.body.length ≤ 3 by omega)]; simp; done)
      | (rw [clauseB, decide_eq_false (show ¬ q.guards.length ≤ 4 by omega)]; simp; done)
      | trace_state
  try simp only [↓cqA, cqB] at c0
  refine awp_skip ?_; refine thenQ_nil ?_; refine awp_seq ?_; refine awp_region ?_
  first | refine awps_stp0 rfl rfl (by decide) (stp_fieldAddr rfl fo_api_Clause_1 rfl) ?_ | refine awps_stp0 rfl rfl (by decide) (stp_fieldAddr_elp rfl fo_api_Clause_1 rfl) ?_
  first | refine awps_stp0 rfl rfl (by decide) (stp_load rfl tf_S_api_Term rfl rfl rfl rfl rfl) ?_ | refine awps_stp0 rfl rfl (by decide) (stp_load_elp1 rfl tf_S_api_Term rfl) ?_ | refine awps_stp0 rfl rfl (by decide) (stp_load_elpn rfl tf_S_api_Term rfl rfl rfl) ?_
  refine awps_callP (avs := [_, _]) false rfl rfl rfl (by decide) en_slices_ContainsFunc_api_Term_api_Term rfl rfl (ContainsFunc_tm_ok false q.body _ (tmDs_map q.body) (by omega) _ [] en_show_Clause_1 (fun _ => []) (fun k => match q.body[k]? with | some t => !(atomB t) | none => false) ⟨fun k l => rfl, fun k => passO .nil, fun k => rfl, fun k => rfl, fun k => rfl, fun k => rfl, fun h => by cases h⟩ (fun k g hg _ => by rw [hg]; exact showClause1_ok g (Tm.wfs_mem hbw (List.mem_of_getElem? hg)))) (rfl) (passO .nil) (by rintro r O' ⟨m, n, b, _, _, _, _, rfl⟩; exact frB rfl) (by rintro h; cases h) ?_
  rintro r O' ⟨m, n, b, hm1, hf1, hc1, rfl, rfl⟩
  have hb1 := cont_all (l := q.body) (p := atomB) (fun j x hx => by simp only [hx]) hf1 hc1
  refine awps_stp0 rfl rfl (by decide) (stp_not rfl rfl) ?_; refine awps_stp0 rfl rfl (by decide) (stp_move (.inl rfl) rfl) ?_; refine awps_split 23 rfl (fun g23 => ?_) (fun g23 => ?_)
  · try simp only [↓cqA, cqB] at g23
    first | refine awps_g0 rfl rfl rfl (by decide) rfl (by decide) (stp_fieldAddr rfl fo_api_Clause_2 rfl) ?_ | refine awps_g0 rfl rfl rfl (by decide) rfl (by decide) (stp_fieldAddr_elp rfl fo_api_Clause_2 rfl) ?_
    first | refine awps_g0 rfl rfl rfl (by decide) rfl (by decide) (stp_load rfl tf_S_api_Guard rfl rfl rfl rfl rfl) ?_ | refine awps_g0 rfl rfl rfl (by decide) rfl (by decide) (stp_load_elp1 rfl tf_S_api_Guard rfl) ?_ | refine awps_g0 rfl rfl rfl (by decide) rfl (by decide) (stp_load_elpn rfl tf_S_api_Guard rfl rfl rfl) ?_
    refine awps_gcallP (avs := [_, _]) false rfl rfl rfl (by decide) rfl rfl (by decide) en_slices_ContainsFunc_api_Guard_api_Guard rfl rfl (ContainsFunc_gd_ok false q.guards _ rfl (by omega) _ [] en_show_Clause_2 (fun _ => []) (fun k => match q.guards[k]? with | some t => !(cmpsB t) | none => false) ⟨fun k l => rfl, fun k => passO .nil, fun k => rfl, fun k => rfl, fun k => rfl, fun k => rfl, fun h => by cases h⟩ (fun k g hg _ => by rw [hg]; exact showClause2_ok g (hgw g (List.mem_of_getElem? hg)))) (rfl) (passO .nil) (by rintro r O' ⟨m, n, b, _, _, _, _, rfl⟩; exact frB rfl) (by rintro h; cases h) ?_
    rintro r O' ⟨m2, n2, b2, hm2, hf2, hc2, rfl, rfl⟩
    have hb2 := cont_all (l := q.guards) (p := cmpsB) (fun j x hx => by simp only [hx]) hf2 hc2
    refine awps_g0 rfl rfl rfl (by decide) rfl (by decide) (stp_not rfl rfl) ?_; refine awps_stp0 rfl rfl (by decide) (stp_pick rfl rfl rfl) ?_; refine awps_stp0 rfl rfl (by decide) (stp_move (.inr rfl) rfl) ?_; refine awps_nil ?_; refine thenQ_nil ?_; refine awp_ret ?_
    -- leaf g7Fg13F0Fg23T
    refine ret0 (noL hL) (.inl rfl) (resAs_tmp rfl (resAs_nil)) ?_ ?_
    · rfl
    refine ⟨bool_w ?_, rfl⟩
    first
      | (rw [hb2, clauseB, atomB, g7, decide_eq_true (show q.body.length ≤ 3 by omega), decide_eq_true (show q.guards.length ≤ 4 by omega), show q.body.all atomB = true by rw [hb1] at g23; simpa using g23]; simp; done)
      | (rw [clauseB, show q.body.all atomB = false by rw [hb1] at g23; simpa using g23]; simp; done)
      | (rw [clauseB, show atomB q.head = false by rw [atomB]; assumption]; simp; done)
      | (simp_all [clauseB, atomB]; done)
      | (rw [clauseB, decide_eq_false (show ¬ q.body.length ≤ 3 by omega)]; simp; done)
      | (rw [clauseB, decide_eq_false (show ¬ q.guards.length ≤ 4 by omega)]; simp; done)
      | trace_state
  try simp only [↓cqA, cqB] at g23
  refine awps_gs rfl rfl rfl rfl (by decide) rfl (by decide) ?_; refine awps_gs rfl rfl rfl rfl (by decide) rfl (by decide) ?_; refine awps_gs rfl rfl rfl rfl (by decide) rfl (by decide) ?_; refine awps_gs rfl rfl rfl rfl (by decide) rfl (by decide) ?_; refine awps_stp0 rfl rfl (by decide) (stp_pick rfl rfl rfl) ?_; refine awps_stp0 rfl rfl (by decide) (stp_move (.inr rfl) rfl) ?_
  refine awps_nil ?_; refine thenQ_nil ?_; refine awp_ret ?_
  -- leaf g7Fg13F0Fg23F
  refine ret0 (noL hL) (.inl rfl) (resAs_tmp rfl (resAs_nil)) ?_ ?_
  · rfl
  refine ⟨bool_w ?_, rfl⟩
  first
    | (rw [hb2, clauseB, atomB, g7, decide_eq_true (show q.body.length ≤ 3 by omega), decide_eq_true (show q.guards.length ≤ 4 by omega), show q.body.all atomB = true by rw [hb1] at g23; simpa using g23]; simp; done)
    | (rw [clauseB, show q.body.all atomB = false by rw [hb1] at g23; simpa using g23]; simp; done)
    | (rw [clauseB, show atomB q.head = false by rw [atomB]; assumption]; simp; done)
    | (simp_all [clauseB, atomB]; done)
    | (rw [clauseB, decide_eq_false (show ¬ q.body.length ≤ 3 by omega)]; simp; done)
    | (rw [clauseB, decide_eq_false (show ¬ q.guards.length ≤ 4 by omega)]; simp; done)
    | trace_state
theorem occ_size : ∀ (d : Nat) (t : Tm), dle d t → t.wf → ∀ y, t.occ y → y.size ≤ 140737488351232
  | 0, t, h, _, _, _ => h.elim
  | d + 1, t, h, hw, y, ho => by
    rcases (Tm.occ_iff y t).1 ho with ⟨_, e⟩ | ⟨u, hu, ho⟩
    · rw [← e]; exact hw.2.1
    · exact occ_size d u (h u hu) (Tm.wfs_mem hw.2.2.2.2 hu) y ho
theorem names_size {ts : List Tm} (hm : ∀ t ∈ ts, mayT t = true) (hw : Tm.wfs ts) {s : ByteArray} (hs : s ∈ noteL 5 ts) : s.size ≤ maxLen := by
  obtain ⟨t, ht, ho⟩ := (noteL5 (fun t ht => (mayT_dle (hm t ht)).1) s).1 hs
  have := occ_size 5 t (mayT_dle (hm t ht)).1 (Tm.wfs_mem hw ht) s ho
  simp only [maxLen]; omega
def inS (ss : List ByteArray) (s : ByteArray) : Bool := ss.any fun u => decide (u = s)
theorem inS_iff {ss : List ByteArray} {s : ByteArray} : inS ss s = true ↔ s ∈ ss := by
  simp only [inS, List.any_eq_true, decide_eq_true_eq]
  exact ⟨fun ⟨x, h, e⟩ => e ▸ h, fun h => ⟨s, h, rfl⟩⟩
def hasN (ss : List ByteArray) (ts : List Tm) : Bool := (noteL 5 ts).all fun s => inS ss s
theorem has1_ok (ss : List ByteArray) (s : ByteArray) (hs : s.size ≤ maxLen) : AC Tryz.prog 269 [sv s, .ptr 2 0] [(2, .box [.map 0]), (0, mpS ss)] (fun r O => r = bv (!(inS ss s)) ∧ O = [(2, .box [.map 0]), (0, mpS ss)]) := by
  refine AC_intro Tryz.func269 rfl Tryz.ntmps269 (Nat.le_of_ble_eq_true rfl) fun c hL hQ hDD => ?_; refine awp_seq ?_; refine awp_region ?_; refine awps_stp0 rfl rfl (by decide) (stp_move (.inr rfl) rfl) ?_; refine awps_nil ?_; refine thenQ_nil ?_; refine awp_seq ?_; refine awp_region ?_
  first | refine awps_stp0 rfl rfl (by decide) (stp_load rfl tf_check_names rfl rfl rfl rfl rfl) ?_ | refine awps_stp0 rfl rfl (by decide) (stp_load_elp1 rfl tf_check_names rfl) ?_ | refine awps_stp0 rfl rfl (by decide) (stp_load_elpn rfl tf_check_names rfl rfl rfl) ?_
  refine awps_stp0 rfl rfl (by decide) (stp_move (.inl rfl) rfl) ?_; refine awps_stp0 rfl rfl (by decide) (stp_mapGet rfl um_check_names Tryz.zeroValue4 rfl rfl rfl rfl ((Go.WideMaps.keyOf_string_mk ul_string hs)) ((by rw [litS_mem, inS_iff]))) ?_; refine awps_stp0 rfl rfl (by decide) (stp_not rfl rfl) ?_; refine awps_stp0 rfl rfl (by decide) (stp_move (.inr rfl) rfl) ?_; refine awps_nil ?_
  refine thenQ_nil ?_; refine awp_ret ?_
  -- leaf 
  change retQ _ _ _ _ _ _ _
  refine retO (O' := [(2, _), (0, _)]) (.inl rfl) (resAs_tmp rfl resAs_nil) (SubO.cons rfl (SubO.cons rfl SubO.nil)) ?_ ?_ (LO hL rfl) ?_
  · rfl
  · rfl
  exact ⟨rfl, rfl⟩
theorem has_ok (ss : List ByteArray) (ts : List Tm) (hm : ∀ t ∈ ts, mayT t = true) (hw : Tm.wfs ts) (hl : ts.length ≤ 8) : AC Tryz.prog 238 [.map 0, .dat false 4 (tmDs ts)] [(0, mpS ss)] (fun r O => r = bv (hasN ss ts) ∧ O = [(0, mpS ss)]) := by
  have hsum := noteL_sum hm
  have hnl := noteL_len 5 ts []
  have hvs := fun (L : List ByteArray) (g2 : ∀ s, s ∈ L ↔ s ∈ noteL 5 ts) => fun s (hs : s ∈ L) => names_size hm hw ((g2 s).1 hs)
  refine AC_intro Tryz.func238 rfl Tryz.ntmps238 (Nat.le_of_ble_eq_true rfl) fun c hL hQ hDD => ?_; refine awp_seq ?_; refine awp_region ?_; refine awps_stp1 rfl rfl (by decide) (stp_box 2 rfl rfl rfl) rfl ?_; refine awps_stp0 rfl rfl (by decide) (stp_move (.inr rfl) rfl) ?_; refine awps_nil ?_; refine thenQ_nil ?_; refine awp_seq ?_; refine awp_region ?_
  refine awps_stp0 rfl rfl (by decide) (stp_move (.inl rfl) rfl) ?_; refine awps_callP (avs := [_]) true rfl rfl rfl (by decide) en_term_Names rfl rfl (Names_ok 5 ts (fun t ht => (mayT_dle (hm t ht)).1) hw (by omega) (by omega)) (rfl) (passO .nil) (by rintro r O' ⟨_, rfl⟩; exact frB rfl) (by rintro - r O' ⟨⟨L, _, _, rfl⟩, rfl⟩; exact ⟨rfl, rfl⟩) ?_
  rintro r O' ⟨⟨L, g1, g2, rfl⟩, rfl⟩
  have hLl := rising_len g1 g2
  refine awps_sub (sub_untag hQ) ?_; refine awps_stp0 rfl rfl (by decide) (stp_makeFunc (vs := [_]) rfl rfl) ?_
  refine awps_callP (avs := [_, _]) false rfl rfl rfl (by decide) en_slices_ContainsFunc_string_string rfl rfl (ContainsFunc_st_ok false L _ rfl (by simp only [noteL] at hLl; simp only [List.length_nil] at hnl; omega) _ [.ptr 2 0] en_check_names_has_1 (fun _ => [(2, .box [.map 0]), (0, mpS ss)]) (fun k => match L[k]? with | some s => !(inS ss s) | none => false) ⟨fun k l => rfl, fun k => passO (.cons rfl trivial rfl (.cons rfl trivial rfl .nil)), fun k => rfl, fun k => rfl, fun k => rfl, fun k => rfl, fun h => by cases h⟩ (fun k s hs _ => by rw [hs]; exact has1_ok ss s (hvs L g2 s (List.mem_of_getElem? hs)))) (rfl) (passO (.cons rfl trivial rfl (.cons rfl trivial rfl .nil))) (by rintro r O' ⟨m, n, b, _, _, _, _, rfl⟩; exact frB rfl) (by rintro h; cases h) ?_
  rintro r O' ⟨m, n, b, hm1, hf1, hc1, rfl, rfl⟩
  have hb1 := cont_all (l := L) (p := fun s => inS ss s) (fun j x hx => by simp only [hx]) hf1 hc1
  refine awps_stp0 rfl rfl (by decide) (stp_not rfl rfl) ?_; refine awps_stp0 rfl rfl (by decide) (stp_move (.inr rfl) rfl) ?_; refine awps_nil ?_; refine thenQ_nil ?_; refine awp_ret ?_
  -- leaf 
  change retQ _ _ _ _ _ _ _
  refine retO (O' := [(0, _)]) (.inl rfl) (resAs_tmp rfl resAs_nil) (SubO.cons rfl SubO.nil) ?_ ?_ (LO hL rfl) ?_
  · rfl
  · rfl
  refine ⟨bool_w ?_, rfl⟩
  rw [hb1, hasN, Bool.not_not, Bool.eq_iff_iff, List.all_eq_true, List.all_eq_true]
  exact ⟨fun h s hs => h s ((g2 s).2 hs), fun h s hs => h s ((g2 s).1 hs)⟩
def guardSafe (ss : List ByteArray) (l : List Gd) : Bool := l.all fun g => hasN ss [g.l, g.r]
theorem guarded_ok (ss : List ByteArray) (l : List Gd) (hl : l.length ≤ 4) (hw : ∀ g ∈ l, g.wf) (hc : ∀ g ∈ l, cmpsB g = true) : AC Tryz.prog 239 [.map 0, .dat false 9 (gdDs l)] [(0, mpS ss)] (fun r O => r = bv (guardSafe ss l) ∧ O = [(0, mpS ss)]) := by
  have hlen := gdDs_length l
  refine AC_intro Tryz.func239 rfl Tryz.ntmps239 (Nat.le_of_ble_eq_true rfl) fun c hL hQ hDD => ?_; refine awp_seq ?_; refine awp_region ?_; refine awps_stp0 rfl rfl (by decide) (stp_move (.inr rfl) rfl) ?_; refine awps_nil ?_; refine thenQ_nil ?_; refine awp_seq ?_; refine awp_seq ?_; refine awp_region ?_; refine awps_stp0 rfl rfl (by decide) (stp_move (.inl rfl) rfl) ?_
  first | refine awps_stp0 rfl rfl (by decide) (stp_len_dat rfl sl_S_api_Guard rfl) ?_ | refine awps_stp0 rfl rfl (by decide) (stp_len_rowd rfl sl_S_api_Guard rfl rfl) ?_ | refine awps_stp0 rfl rfl (by decide) (stp_len_nil rfl sl_S_api_Guard rfl) ?_ | refine awps_stp0 rfl rfl (by decide) (stp_len_vw rfl sl_S_api_Guard rfl) ?_
  refine awps_stp0 rfl rfl (by decide) (stp_move (.inl rfl) rfl) ?_; refine awps_nil ?_; refine thenQ_nil ?_; refine awp_block ?_
  refine awp_while (l.length) (fun k => k ≤ l.length ∧ ∀ (j : Nat) (g : Gd), j < k → l[j]? = some g → hasN ss [g.l, g.r] = true) (fun k => ⟨[(0, .map 0), (7, .dat false 9 (gdDs l)), (8, iv (gdDs l).length), (9, iv (k : Int))], [(0, mpS ss)]⟩) (⟨by omega, fun j g hj => absurd hj (by omega)⟩) ?_ (fun k hk hp => ?_)
  · exact sub_re (SubT.cons (lk_eq rfl (by first | rfl | simp)) (SubT.cons (lk_eq rfl (by first | rfl | simp)) (SubT.cons (lk_eq rfl (by first | rfl | simp)) (SubT.cons (lk_eq rfl (by first | rfl | simp)) (SubT.nil))))) (SubO.cons (ok_eq rfl (by rfl)) (SubO.nil)) rfl rfl (LO hL rfl)
  refine awp_seq ?_; refine awp_region ?_; refine awps_stp0 rfl rfl (by decide) (stp_binI rfl rfl rfl rfl) ?_; refine awps_nil ?_; refine thenQ_nil ?_; refine awp_seq ?_; refine awp_cond rfl (fun c0 => ?_) (fun c0 => ?_)
  · try simp only [↓cqA, cqB] at c0
    obtain ⟨u, hu⟩ := get_of_lt (l := l) (k := k) (by omega)
    have hum := List.mem_of_getElem? hu
    have huw := hw u hum
    have huc := hc u hum
    simp only [cmpsB, Bool.and_eq_true, decide_eq_true_eq] at huc
    have hmm : ∀ t ∈ [u.l, u.r], mayT t = true := fun t ht => by
      simp only [List.mem_cons, List.not_mem_nil, or_false] at ht
      rcases ht with rfl | rfl
      · exact huc.1.2
      · exact huc.2
    have hww : Tm.wfs [u.l, u.r] := wfs_of (fun t ht => by
      simp only [List.mem_cons, List.not_mem_nil, or_false] at ht
      rcases ht with rfl | rfl
      · exact huw.2.1
      · exact huw.2.2)
    have key := has_ok ss [u.l, u.r] hmm hww (by simp)
    rw [tmDs_map] at key
    refine awp_skip ?_; refine thenQ_nil ?_; refine awp_seq ?_; refine awp_block ?_; refine awp_seq ?_; refine awp_region ?_
    first | refine awps_stp0 rfl rfl (by decide) (stp_indexAddr rfl sl_S_api_Guard rfl rfl (by omega) (gdDs_get hu)) ?_ | refine awps_stp0 rfl rfl (by decide) (stp_indexAddr_rowd rfl sl_S_api_Guard rfl rfl rfl (by omega) (gdDs_get hu)) ?_ | refine awps_stp0 rfl rfl (by decide) (stp_indexAddr_row rfl sl_S_api_Guard rfl rfl rfl (by omega) (gdDs_get hu) (by decide)) ?_
    first | refine awps_stp0 rfl rfl (by decide) (stp_load_all rfl tf_api_Guard rfl rfl rfl rfl) ?_ | refine awps_stp0 rfl rfl (by decide) (stp_load rfl tf_api_Guard rfl rfl rfl rfl rfl) ?_ | refine awps_stp0 rfl rfl (by decide) (stp_load_elpa rfl tf_api_Guard rfl rfl) ?_ | refine awps_stp0 rfl rfl (by decide) (stp_load_elpn rfl tf_api_Guard rfl rfl rfl) ?_
    refine awps_stp1 rfl rfl (by decide) (stp_alloc 6 rfl zv_api_Guard rfl) rfl ?_; refine awps_store rfl rfl rfl tf_api_Guard rfl rfl rfl rfl rfl rfl rfl rfl rfl ?_; refine awps_nil ?_; refine thenQ_nil ?_; refine awp_seq ?_; refine awp_seq ?_; refine awp_region ?_
    first | refine awps_stp0 rfl rfl (by decide) (stp_fieldAddr rfl fo_api_Guard_0 rfl) ?_ | refine awps_stp0 rfl rfl (by decide) (stp_fieldAddr_elp rfl fo_api_Guard_0 rfl) ?_
    first | refine awps_stp0 rfl rfl (by decide) (stp_load rfl tf_int rfl rfl rfl rfl rfl) ?_ | refine awps_stp0 rfl rfl (by decide) (stp_load_elp1 rfl tf_int rfl) ?_ | refine awps_stp0 rfl rfl (by decide) (stp_load_elpn rfl tf_int rfl rfl rfl) ?_
    refine awps_stp0 rfl rfl (by decide) (stp_binI rfl rfl rfl rfl) ?_; refine awps_nil ?_; refine thenQ_nil ?_; refine awp_cond rfl (fun c1 => ?_) (fun c1 => ?_)
    · try simp only [↓cqA, cqB] at c1
      omega
    try simp only [↓cqA, cqB] at c1
    refine awp_skip ?_; refine thenQ_nil ?_; refine awp_seq ?_; refine awp_region ?_; refine awps_stp0 rfl rfl (by decide) (stp_move (.inl rfl) rfl) ?_
    first | refine awps_stp0 rfl rfl (by decide) (stp_fieldAddr rfl fo_api_Guard_1 rfl) ?_ | refine awps_stp0 rfl rfl (by decide) (stp_fieldAddr_elp rfl fo_api_Guard_1 rfl) ?_
    first | refine awps_stp0 rfl rfl (by decide) (stp_load_all rfl tf_api_Term rfl rfl rfl rfl) ?_ | refine awps_stp0 rfl rfl (by decide) (stp_load rfl tf_api_Term rfl rfl rfl rfl rfl) ?_ | refine awps_stp0 rfl rfl (by decide) (stp_load_elpa rfl tf_api_Term rfl rfl) ?_ | refine awps_stp0 rfl rfl (by decide) (stp_load_elpn rfl tf_api_Term rfl rfl rfl) ?_
    first | refine awps_stp0 rfl rfl (by decide) (stp_fieldAddr rfl fo_api_Guard_2 rfl) ?_ | refine awps_stp0 rfl rfl (by decide) (stp_fieldAddr_elp rfl fo_api_Guard_2 rfl) ?_
    first | refine awps_stp0 rfl rfl (by decide) (stp_load_all rfl tf_api_Term rfl rfl rfl rfl) ?_ | refine awps_stp0 rfl rfl (by decide) (stp_load rfl tf_api_Term rfl rfl rfl rfl rfl) ?_ | refine awps_stp0 rfl rfl (by decide) (stp_load_elpa rfl tf_api_Term rfl rfl) ?_ | refine awps_stp0 rfl rfl (by decide) (stp_load_elpn rfl tf_api_Term rfl rfl rfl) ?_
    refine awps_stp1 rfl rfl (by decide) (stp_buildSlice 25 rfl sl_S_api_Term zv_api_Term rfl rfl (by decide) (by decide) (by decide) rfl rfl rfl) rfl ?_; refine awps_rowd 25 false 2 rfl rfl rfl rfl ?_
    refine awps_callP (avs := [_, _]) true rfl rfl rfl (by decide) en_check_names_has rfl rfl (key) (rfl) (passO (.cons rfl trivial rfl .nil)) (by rintro r O' ⟨_, rfl⟩; exact frB rfl) (by rintro - r O' ⟨rfl, rfl⟩; exact ⟨rfl, rfl⟩) ?_
    rintro r O' ⟨rfl, rfl⟩
    refine awps_stp0 rfl rfl (by decide) (stp_not rfl rfl) ?_; refine awps_nil ?_; refine thenQ_nil ?_; refine awp_cond rfl (fun c2 => ?_) (fun c2 => ?_)
    · try simp only [↓cqA, cqB] at c2
      refine awp_seq ?_; refine awp_region ?_; refine awps_stp0 rfl rfl (by decide) (stp_move (.inr rfl) rfl) ?_; refine awps_nil ?_; refine thenQ_nil ?_; refine awp_ret ?_; refine inQ_ret (thenQ_ret (thenQ_ret (inQ_ret (thenQ_ret (?_)))))
      -- leaf 0T1F2T
      change retQ _ _ _ _ _ _ _
      refine retO (O' := [(0, _)]) (.inl rfl) (resAs_tmp rfl resAs_nil) (SubO.cons rfl SubO.nil) ?_ ?_ (LO hL rfl) ?_
      · rfl
      · rfl
      refine ⟨bool_w ?_, rfl⟩
      symm
      first
        | exact List.all_eq_false.2 ⟨u, hum, by simpa using c2⟩
        | exact List.all_eq_true.2 (fun x hx => by obtain ⟨j, hj⟩ := List.getElem?_of_mem hx; exact hp.2 j x (by have := (List.getElem?_eq_some_iff.1 hj).1; omega) hj)
        | trace_state
    try simp only [↓cqA, cqB] at c2
    refine awp_skip ?_; refine inQ_nil ?_; refine thenQ_nil ?_; refine awp_region ?_; refine awps_stp0 rfl rfl (by decide) (stp_add rfl rfl rfl (by omega)) ?_; refine awps_stp0 rfl rfl (by decide) (stp_move (.inl rfl) rfl) ?_; refine awps_nil ?_; refine thenQ_nil ?_; refine ⟨?_, ?_, ?_⟩
    · skip
      omega
    · skip
      refine ⟨by omega, fun j g hj hg => ?_⟩
      by_cases hjk : j < k
      · exact hp.2 j g hjk hg
      · rw [show j = k by omega, hu] at hg; cases hg; simpa using c2
    exact sub_re (SubT.cons (lk_eq rfl (by first | rfl | simp)) (SubT.cons (lk_eq rfl (by first | rfl | simp)) (SubT.cons (lk_eq rfl (by first | rfl | simp)) (SubT.cons (lk_eq rfl (by first | rfl | simp)) (SubT.nil))))) (SubO.cons (ok_eq rfl (by rfl)) (SubO.nil)) rfl rfl (LO hL rfl)
  try simp only [↓cqA, cqB] at c0
  refine awp_exit ?_; refine thenQ_exit (thenQ_exit (inQ_hit ?_)); refine thenQ_nil ?_; refine awp_seq ?_; refine awp_region ?_; refine awps_stp0 rfl rfl (by decide) (stp_move (.inr rfl) rfl) ?_; refine awps_nil ?_; refine thenQ_nil ?_; refine awp_ret ?_
  -- leaf 0F
  change retQ _ _ _ _ _ _ _
  refine retO (O' := [(0, _)]) (.inl rfl) (resAs_tmp rfl resAs_nil) (SubO.cons rfl SubO.nil) ?_ ?_ (LO hL rfl) ?_
  · rfl
  · rfl
  refine ⟨bool_w ?_, rfl⟩
  symm
  first
    | exact List.all_eq_false.2 ⟨u, hum, by simpa using c2⟩
    | exact List.all_eq_true.2 (fun x hx => by obtain ⟨j, hj⟩ := List.getElem?_of_mem hx; exact hp.2 j x (by have := (List.getElem?_eq_some_iff.1 hj).1; omega) hj)
    | trace_state
def bodyN (l : List Tm) : List ByteArray := noteL 5 l
def clauseE (c : Cl) : Int := if clauseB c = false then 1 else if (hasN (bodyN c.body) [c.head] && guardSafe (bodyN c.body) c.guards) = true then 0 else 6
theorem checkClause_ok (q : Cl) (hc : q.wf) : PF 193 [clA q] (iv (clauseE q)) := by
  obtain ⟨hh, ⟨hbl, hbw⟩, hgl, hgw⟩ := id hc
  have hlb := tmDs_length q.body
  have hlg := gdDs_length q.guards
  simp only [lenOk] at hbl hgl
  refine AC_intro Tryz.func193 rfl Tryz.ntmps193 (Nat.le_of_ble_eq_true rfl) fun c hL hQ hDD => ?_; refine awp_seq ?_; refine awp_region ?_; refine awps_stp1 rfl rfl (by decide) (stp_box 1 rfl rfl rfl) rfl ?_; refine awps_stp0 rfl rfl (by decide) (stp_move (.inr rfl) rfl) ?_; refine awps_nil ?_; refine thenQ_nil ?_; refine awp_seq ?_; refine awp_seq ?_; refine awp_region ?_
  first | refine awps_stp0 rfl rfl (by decide) (stp_load_all rfl tf_api_Clause rfl rfl rfl rfl) ?_ | refine awps_stp0 rfl rfl (by decide) (stp_load rfl tf_api_Clause rfl rfl rfl rfl rfl) ?_ | refine awps_stp0 rfl rfl (by decide) (stp_load_elpa rfl tf_api_Clause rfl rfl) ?_ | refine awps_stp0 rfl rfl (by decide) (stp_load_elpn rfl tf_api_Clause rfl rfl rfl) ?_
  refine awps_call (avs := [_]) true rfl rfl rfl (by decide) en_show_Clause rfl rfl (showClause_ok q hc) rfl rfl ?_; refine awps_stp0 rfl rfl (by decide) (stp_not rfl rfl) ?_; refine awps_nil ?_; refine thenQ_nil ?_; refine awp_cond rfl (fun c0 => ?_) (fun c0 => ?_)
  · try simp only [↓cqA, cqB] at c0
    refine awp_seq ?_; refine awp_region ?_; refine awps_stp0 rfl rfl (by decide) (stp_move (.inr rfl) rfl) ?_; refine awps_nil ?_; refine thenQ_nil ?_; refine awp_ret ?_; refine thenQ_ret (?_)
    -- leaf 0T
    refine ret0 (noL hL) (.inl rfl) (resAs_tmp rfl (resAs_nil)) ?_ ?_
    · rfl
    refine ⟨int_w ?_, rfl⟩
    simp_all [clauseE, bodyN]
  try simp only [↓cqA, cqB] at c0
  have hcb : clauseB q = true := by simp_all
  have hcb2 := hcb
  simp only [clauseB, atomB, Bool.and_eq_true, decide_eq_true_eq, List.all_eq_true] at hcb2
  obtain ⟨⟨⟨⟨⟨hhm, _⟩, hb3⟩, hg4⟩, hba⟩, hga⟩ := hcb2
  have hbm : ∀ t ∈ q.body, mayT t = true := fun t ht => (hba t ht).1
  have hsum := noteL_sum hbm
  refine awp_skip ?_; refine thenQ_nil ?_; refine awp_seq ?_; refine awp_region ?_; refine awps_stp1 rfl rfl (by decide) (stp_makeMap 9 rfl (Go.Maps.string_keyed ul_string)) rfl ?_; refine awps_stp0 rfl rfl (by decide) (stp_move (.inr rfl) rfl) ?_; refine awps_nil ?_; refine thenQ_nil ?_; refine awp_seq ?_; refine awp_seq ?_; refine awp_region ?_
  first | refine awps_stp0 rfl rfl (by decide) (stp_fieldAddr rfl fo_api_Clause_1 rfl) ?_ | refine awps_stp0 rfl rfl (by decide) (stp_fieldAddr_elp rfl fo_api_Clause_1 rfl) ?_
  first | refine awps_stp0 rfl rfl (by decide) (stp_load rfl tf_S_api_Term rfl rfl rfl rfl rfl) ?_ | refine awps_stp0 rfl rfl (by decide) (stp_load_elp1 rfl tf_S_api_Term rfl) ?_ | refine awps_stp0 rfl rfl (by decide) (stp_load_elpn rfl tf_S_api_Term rfl rfl rfl) ?_
  first | refine awps_stp0 rfl rfl (by decide) (stp_len_dat rfl sl_S_api_Term rfl) ?_ | refine awps_stp0 rfl rfl (by decide) (stp_len_rowd rfl sl_S_api_Term rfl rfl) ?_ | refine awps_stp0 rfl rfl (by decide) (stp_len_nil rfl sl_S_api_Term rfl) ?_ | refine awps_stp0 rfl rfl (by decide) (stp_len_vw rfl sl_S_api_Term rfl) ?_
  refine awps_stp0 rfl rfl (by decide) (stp_move (.inl rfl) rfl) ?_; refine awps_nil ?_; refine thenQ_nil ?_; refine awp_block ?_
  refine awp_while (q.body.length) (fun k => k ≤ q.body.length) (fun k => ⟨[(1, .ptr 1 0), (3, .map 9), (11, .dat false 4 (tmDs q.body)), (12, iv (tmDs q.body).length), (13, iv (k : Int))], [(1, .box (lift false (clD q))), (9, mpS (noteL 5 (q.body.take k)))]⟩) (by omega) ?_ (fun k hk hp => ?_)
  · exact sub_re (SubT.cons (lk_eq rfl (by first | rfl | simp)) (SubT.cons (lk_eq rfl (by first | rfl | simp)) (SubT.cons (lk_eq rfl (by first | rfl | simp)) (SubT.cons (lk_eq rfl (by first | rfl | simp)) (SubT.cons (lk_eq rfl (by first | rfl | simp)) (SubT.nil)))))) (SubO.cons (ok_eq rfl (by rfl)) (SubO.cons (ok_eq rfl (by rfl)) (SubO.nil))) rfl rfl (noL' (noL hL) _)
  have hs1 := noteL_len 5 (q.body.take k) []
  refine awp_seq ?_; refine awp_region ?_; refine awps_stp0 rfl rfl (by decide) (stp_binI rfl rfl rfl rfl) ?_; refine awps_nil ?_; refine thenQ_nil ?_; refine awp_seq ?_; refine awp_cond rfl (fun c1 => ?_) (fun c1 => ?_)
  · try simp only [↓cqA, cqB] at c1
    obtain ⟨u, hu⟩ := get_of_lt (l := q.body) (k := k) (by omega)
    have hum := List.mem_of_getElem? hu
    have hs2 := sum_split (nodes 5) hu
    have hnk := fun ss h => AC_rnE 0 9 (Note_ok 5 u ss (mayT_dle (hbm u hum)).1 (Tm.wfs_mem hbw hum) h)
    refine awp_skip ?_; refine thenQ_nil ?_; refine awp_seq ?_; refine awp_block ?_; refine awp_seq ?_; refine awp_region ?_
    first | refine awps_stp0 rfl rfl (by decide) (stp_indexAddr rfl sl_S_api_Term rfl rfl (by omega) (tmDs_get hu)) ?_ | refine awps_stp0 rfl rfl (by decide) (stp_indexAddr_rowd rfl sl_S_api_Term rfl rfl rfl (by omega) (tmDs_get hu)) ?_ | refine awps_stp0 rfl rfl (by decide) (stp_indexAddr_row rfl sl_S_api_Term rfl rfl rfl (by omega) (tmDs_get hu) (by decide)) ?_
    first | refine awps_stp0 rfl rfl (by decide) (stp_load_all rfl tf_api_Term rfl rfl rfl rfl) ?_ | refine awps_stp0 rfl rfl (by decide) (stp_load rfl tf_api_Term rfl rfl rfl rfl rfl) ?_ | refine awps_stp0 rfl rfl (by decide) (stp_load_elpa rfl tf_api_Term rfl rfl) ?_ | refine awps_stp0 rfl rfl (by decide) (stp_load_elpn rfl tf_api_Term rfl rfl rfl) ?_
    refine awps_stp1 rfl rfl (by decide) (stp_alloc 5 rfl zv_api_Term rfl) rfl ?_; refine awps_store rfl rfl rfl tf_api_Term rfl rfl rfl rfl rfl rfl rfl rfl rfl ?_; refine awps_nil ?_; refine thenQ_nil ?_; refine awp_region ?_
    first | refine awps_stp0 rfl rfl (by decide) (stp_load_all rfl tf_api_Term rfl rfl rfl rfl) ?_ | refine awps_stp0 rfl rfl (by decide) (stp_load rfl tf_api_Term rfl rfl rfl rfl rfl) ?_ | refine awps_stp0 rfl rfl (by decide) (stp_load_elpa rfl tf_api_Term rfl rfl) ?_ | refine awps_stp0 rfl rfl (by decide) (stp_load_elpn rfl tf_api_Term rfl rfl rfl) ?_
    refine awps_stp0 rfl rfl (by decide) (stp_move (.inl rfl) rfl) ?_
    refine awps_callP (avs := [_, _]) true rfl rfl rfl (by decide) en_term_Note rfl rfl (hnk (noteL 5 (q.body.take k)) (by simp only [noteL]; simp only [List.length_nil] at hs1; omega)) (rfl) (passO (.cons rfl trivial rfl .nil)) (by rintro r O' ⟨rfl, rfl⟩ l hl; exact .inl ((inD_dom (by rfl) l).trans hl)) (by rintro - r O' ⟨rfl, rfl⟩; exact ⟨rfl, rfl⟩) ?_
    rintro r O' ⟨rfl, rfl⟩
    refine awps_nil ?_; refine inQ_nil ?_; refine thenQ_nil ?_; refine awp_region ?_; refine awps_stp0 rfl rfl (by decide) (stp_add rfl rfl rfl (by omega)) ?_; refine awps_stp0 rfl rfl (by decide) (stp_move (.inl rfl) rfl) ?_; refine awps_nil ?_; refine thenQ_nil ?_; refine ⟨?_, ?_, ?_⟩
    · skip
      omega
    · skip
      omega
    exact sub_re (SubT.cons (lk_eq rfl (by first | rfl | simp)) (SubT.cons (lk_eq rfl (by first | rfl | simp)) (SubT.cons (lk_eq rfl (by first | rfl | simp)) (SubT.cons (lk_eq rfl (by first | rfl | simp)) (SubT.cons (lk_eq rfl (by first | rfl | simp)) (SubT.nil)))))) (SubO.cons (ok_eq rfl (by rfl)) (SubO.cons (ok_eq rfl (by rw [take_snoc hu, noteL_snoc]; rfl)) (SubO.nil))) rfl rfl (noL' (noL hL) _)
  try simp only [↓cqA, cqB] at c1
  have hk2 : q.body.take k = q.body := List.take_of_length_le (by omega)
  rw [hk2]
  have hh1 := AC_rnE 0 9 (has_ok (noteL 5 q.body) [q.head] (fun t ht => by rw [List.mem_singleton.1 ht]; exact hhm) (wfs_of (fun t ht => by rw [List.mem_singleton.1 ht]; exact hh)) (by simp))
  rw [tmDs_map] at hh1
  have hh2 := AC_rnE 0 9 (guarded_ok (noteL 5 q.body) q.guards (by omega) hgw hga)
  refine awp_exit ?_; refine thenQ_exit (thenQ_exit (inQ_hit ?_)); refine thenQ_nil ?_; refine awp_seq ?_; refine awp_seq ?_; refine awp_region ?_; refine awps_stp0 rfl rfl (by decide) (stp_move (.inl rfl) rfl) ?_
  first | refine awps_stp0 rfl rfl (by decide) (stp_fieldAddr rfl fo_api_Clause_0 rfl) ?_ | refine awps_stp0 rfl rfl (by decide) (stp_fieldAddr_elp rfl fo_api_Clause_0 rfl) ?_
  first | refine awps_stp0 rfl rfl (by decide) (stp_load_all rfl tf_api_Term rfl rfl rfl rfl) ?_ | refine awps_stp0 rfl rfl (by decide) (stp_load rfl tf_api_Term rfl rfl rfl rfl rfl) ?_ | refine awps_stp0 rfl rfl (by decide) (stp_load_elpa rfl tf_api_Term rfl rfl) ?_ | refine awps_stp0 rfl rfl (by decide) (stp_load_elpn rfl tf_api_Term rfl rfl rfl) ?_
  refine awps_stp1 rfl rfl (by decide) (stp_buildSlice 24 rfl sl_S_api_Term zv_api_Term rfl rfl (by decide) (by decide) (by decide) rfl rfl rfl) rfl ?_; refine awps_rowd 24 false 1 rfl rfl rfl rfl ?_
  refine awps_callP (avs := [_, _]) true rfl rfl rfl (by decide) en_check_names_has rfl rfl (hh1) (rfl) (passO (.cons rfl trivial rfl .nil)) (by rintro r O' ⟨rfl, rfl⟩; exact frB rfl) (by rintro - r O' ⟨rfl, rfl⟩; exact ⟨rfl, rfl⟩) ?_
  rintro r O' ⟨rfl, rfl⟩
  refine awps_stp0 rfl rfl (by decide) (stp_not rfl rfl) ?_; refine awps_stp0 rfl rfl (by decide) (stp_move (.inl rfl) rfl) ?_; refine awps_split 27 rfl (fun g27 => ?_) (fun g27 => ?_)
  · try simp only [↓cqA, cqB] at g27
    refine awps_gs rfl rfl rfl rfl (by decide) rfl (by decide) ?_; refine awps_gs rfl rfl rfl rfl (by decide) rfl (by decide) ?_; refine awps_gs rfl rfl rfl rfl (by decide) rfl (by decide) ?_; refine awps_gs rfl rfl rfl rfl (by decide) rfl (by decide) ?_; refine awps_gs rfl rfl rfl rfl (by decide) rfl (by decide) ?_; refine awps_stp0 rfl rfl (by decide) (stp_pick rfl rfl rfl) ?_
    refine awps_nil ?_; refine thenQ_nil ?_; refine awp_condT rfl ?_; refine awp_seq ?_; refine awp_region ?_; refine awps_stp0 rfl rfl (by decide) (stp_move (.inr rfl) rfl) ?_; refine awps_nil ?_; refine thenQ_nil ?_; refine awp_ret ?_; refine thenQ_ret (?_)
    -- leaf 0F1Fg27T
    refine ret0 (noL hL) (.inl rfl) (resAs_tmp rfl (resAs_nil)) ?_ ?_
    · rfl
    refine ⟨int_w ?_, rfl⟩
    simp_all [clauseE, bodyN]
  try simp only [↓cqA, cqB] at g27
  refine awps_g0 rfl rfl rfl (by decide) rfl (by decide) (stp_move (.inl rfl) rfl) ?_
  first | refine awps_g0 rfl rfl rfl (by decide) rfl (by decide) (stp_fieldAddr rfl fo_api_Clause_2 rfl) ?_ | refine awps_g0 rfl rfl rfl (by decide) rfl (by decide) (stp_fieldAddr_elp rfl fo_api_Clause_2 rfl) ?_
  first | refine awps_g0 rfl rfl rfl (by decide) rfl (by decide) (stp_load rfl tf_S_api_Guard rfl rfl rfl rfl rfl) ?_ | refine awps_g0 rfl rfl rfl (by decide) rfl (by decide) (stp_load_elp1 rfl tf_S_api_Guard rfl) ?_ | refine awps_g0 rfl rfl rfl (by decide) rfl (by decide) (stp_load_elpn rfl tf_S_api_Guard rfl rfl rfl) ?_
  refine awps_gcallP (avs := [_, _]) true rfl rfl rfl (by decide) rfl rfl (by decide) en_check_guarded rfl rfl (hh2) (rfl) (passO (.cons rfl trivial rfl .nil)) (by rintro r O' ⟨rfl, rfl⟩; exact frB rfl) (by rintro - r O' ⟨rfl, rfl⟩; exact ⟨rfl, rfl⟩) ?_
  rintro r O' ⟨rfl, rfl⟩
  refine awps_g0 rfl rfl rfl (by decide) rfl (by decide) (stp_not rfl rfl) ?_; refine awps_stp0 rfl rfl (by decide) (stp_pick rfl rfl rfl) ?_; refine awps_nil ?_; refine thenQ_nil ?_; refine awp_cond rfl (fun c2 => ?_) (fun c2 => ?_)
  · try simp only [↓cqA, cqB] at c2
    refine awp_seq ?_; refine awp_region ?_; refine awps_stp0 rfl rfl (by decide) (stp_move (.inr rfl) rfl) ?_; refine awps_nil ?_; refine thenQ_nil ?_; refine awp_ret ?_; refine thenQ_ret (?_)
    -- leaf 0F1Fg27F2T
    refine ret0 (noL hL) (.inl rfl) (resAs_tmp rfl (resAs_nil)) ?_ ?_
    · rfl
    refine ⟨int_w ?_, rfl⟩
    simp_all [clauseE, bodyN]
  try simp only [↓cqA, cqB] at c2
  refine awp_skip ?_; refine thenQ_nil ?_; refine awp_seq ?_; refine awp_region ?_; refine awps_stp0 rfl rfl (by decide) (stp_move (.inr rfl) rfl) ?_; refine awps_nil ?_; refine thenQ_nil ?_; refine awp_ret ?_
  -- leaf 0F1Fg27F2F
  refine ret0 (noL hL) (.inl rfl) (resAs_tmp rfl (resAs_nil)) ?_ ?_
  · rfl
  refine ⟨int_w ?_, rfl⟩
  simp_all [clauseE, bodyN]
end Go.Proofs.YtdecgkhdbfgldaaGreat

set_option linter.unusedVariables false
set_option linter.unusedSimpArgs false
namespace Go.Proofs.YtdecgkhdbfgldaaGreat
open Go
def leafs (t : Tm) : Prop := ∀ u ∈ t.args, u.args = []
theorem foldmax_ge (f : Tm → Int) : ∀ (l : List Tm) (n : Int), n ≤ l.foldl (fun n u => max n (f u)) n ∧ ∀ u ∈ l, f u ≤ l.foldl (fun n u => max n (f u)) n
  | [], n => ⟨Int.le_refl _, fun u hu => by cases hu⟩
  | a :: l, n => by
    obtain ⟨h1, h2⟩ := foldmax_ge f l (max n (f a))
    refine ⟨by simp only [List.foldl_cons]; omega, fun u hu => ?_⟩
    simp only [List.foldl_cons]
    rcases List.mem_cons.1 hu with rfl | hu
    · omega
    · exact h2 u hu
theorem dpT_pos (d : Nat) (t : Tm) : 1 ≤ dpT (d + 1) t := by
  have := (dpA_range d t.args).1
  simp only [dpT]; omega
theorem flat_leafs {t : Tm} (h : flatB t = true) : t.kind = 3 ∧ leafs t := by
  simp only [flatB, Bool.and_eq_true, decide_eq_true_eq] at h
  refine ⟨h.1, fun u hu => ?_⟩
  have h1 := (foldmax_ge (dpT 4) t.args 0).2 u hu
  have h2 : dpA (dpT 4) t.args + 1 ≤ 2 := h.2
  have h3 : dpT 4 u ≤ 1 := by simp only [dpA] at h2; omega
  cases ha : u.args with
  | nil => rfl
  | cons v l =>
    exfalso
    have h4 : dpA (dpT 3) u.args + 1 ≤ 1 := h3
    have h5 := (foldmax_ge (dpT 3) u.args 0).2 v (by rw [ha]; simp)
    have h6 : 1 ≤ dpT 3 v := dpT_pos 2 v
    simp only [dpA] at h4; omega
theorem leafs_flat {t : Tm} (hk : t.kind = 3) (h : leafs t) : flatB t = true := by
  simp only [flatB, Bool.and_eq_true, decide_eq_true_eq]
  refine ⟨hk, ?_⟩
  have : dpA (dpT 4) t.args ≤ 1 := (foldmax_le (dpT 4) 1 t.args 0 (by omega) (by omega) fun u hu => by
    have hu2 := h u hu
    refine ⟨(dpT_range 4 u).1, ?_⟩
    show dpA (dpT 3) u.args + 1 ≤ 1
    rw [hu2]; simp [dpA]).2
  show dpA (dpT 4) t.args + 1 ≤ 2
  omega
theorem occ_varB {t : Tm} {y : ByteArray} (hs : t.shp) : t.occ y → varB y = true := by
  refine Tm.ind (P := fun t => t.shp → t.occ y → varB y = true) (fun t ih hs ho => ?_) t hs
  rcases (Tm.occ_iff y t).1 ho with ⟨hk, e⟩ | ⟨u, hu, ho⟩
  · rw [← e]; exact (hs.var hk).2
  · exact ih u hu (hs.arg hu) ho
theorem sz_leaf {t : Tm} (h : t.args = []) : t.sz = 1 := by
  cases t; simp only at h; subst h; rfl
theorem sub_leaf {g : ByteArray → Tm} (t : Tm) : t.shp → (∀ y, t.occ y → (g y).shp ∧ (g y).args = []) → (t.sub g).shp ∧ (t.sub g).sz = t.sz ∧ ∀ d, dle d t → dle d (t.sub g) := by
  refine Tm.ind (P := fun t => t.shp → (∀ y, t.occ y → (g y).shp ∧ (g y).args = []) → (t.sub g).shp ∧ (t.sub g).sz = t.sz ∧ ∀ d, dle d t → dle d (t.sub g)) (fun t ih hs hg => ?_) t
  rw [Tm.sub_eq]
  split
  · rename_i hk
    obtain ⟨h1, h2⟩ := hg t.name ((Tm.occ_iff _ _).2 (.inl ⟨hk, rfl⟩))
    have ev := (hs.var hk).1
    refine ⟨h1, by rw [sz_leaf h2, ev]; rfl, fun d hd => ?_⟩
    cases d with
    | zero => exact hd
    | succ d => intro u hu; rw [h2] at hu; cases hu
  · rename_i hk
    have ih2 := fun u hu => ih u hu (hs.arg hu) (fun y hy => hg y ((Tm.occ_iff _ _).2 (.inr ⟨u, hu, hy⟩)))
    have htop := ((Tm.shp_iff t).1 hs).1
    refine ⟨(Tm.shp_iff _).2 ⟨?_, fun v hv => ?_⟩, ?_, fun d hd => ?_⟩
    · simp only [Tm.top] at htop ⊢
      rcases htop with ⟨h1, _⟩ | ⟨h1, h2, h3, h4⟩ | ⟨h1, h2, h3, h4⟩
      · exact absurd h1 hk
      · exact .inr (.inl ⟨h1, h2, h3, by rw [h4]; rfl⟩)
      · exact .inr (.inr ⟨h1, h2, h3, by simpa using h4⟩)
    · obtain ⟨u, hu, rfl⟩ := List.mem_map.1 hv
      exact (ih2 u hu).1
    · rw [Tm.sz_eq, Tm.sz_eq]
      simp only [List.map_map]
      congr 2
      exact List.map_congr_left fun u hu => (ih2 u hu).2.1
    · cases d with
      | zero => exact hd
      | succ d =>
        intro v hv
        obtain ⟨u, hu, rfl⟩ := List.mem_map.1 hv
        exact (ih2 u hu).2.2 d (hd u hu)
theorem may_leaf {g : ByteArray → Tm} {t : Tm} (h : mayT t = true) (hg : ∀ y, t.occ y → (g y).shp ∧ (g y).args = []) : mayT (t.sub g) = true := by
  obtain ⟨h1, h2, h3⟩ := (mayT_iff t).1 h
  obtain ⟨k1, k2, k3⟩ := sub_leaf t h1 hg
  exact (mayT_iff _).2 ⟨k1, k3 5 h2, by omega⟩
structure FG (l : List Bd) : Prop where
  gg : GG l
  leaf : ∀ b ∈ l, b.t.args = []
theorem FG_nil : FG [] := ⟨GG_nil, fun b hb => by cases hb⟩
theorem FG.get {l : List Bd} (h : FG l) {t : Tm} (ht : mayT t = true) : ∀ y, t.occ y → (gB l y).shp ∧ (gB l y).args = [] := fun y hy => by
  cases hh : hasB l y with
  | true =>
    obtain ⟨b, hb, rfl⟩ := (hasB_iff l y).1 hh
    rw [gB_mem h.gg.gb.ris hb]
    exact ⟨may_shp (h.gg.gb.el b hb).2.2, h.leaf b hb⟩
  | false =>
    rw [gB_none h.gg.gb.ris hh]
    exact ⟨(Tm.shp_iff _).2 ⟨.inl ⟨rfl, occ_varB (may_shp ht) hy, rfl, rfl⟩, fun u hu => by cases hu⟩, rfl⟩
theorem FG.put {l : List Bd} (h : FG l) {t : Tm} (ht : mayT t = true) : mayT (putT l t) = true := by
  rw [putT_sub (may_dle ht)]
  exact may_leaf ht (h.get ht)
structure AtK (t : Tm) : Prop where
  wf : t.wf
  may : mayT t = true
  gr : Gr t
  kind : t.kind = 3
  leaf : leafs t
theorem fit_leaf {l : List Bd} (h : FG l) {a t : Tm} (ha : mayT a = true) (haw : a.wf) (hf : flatB a = true) (ht : AtK t) (h0 : (fitR 5 l a t).2 = 0) : FG (fitR 5 l a t).1 ∧ (∀ y, hasB (fitR 5 l a t).1 y = true ↔ hasB l y = true ∨ a.occ y) ∧ putT (fitR 5 l a t).1 a = t := by
  obtain ⟨f1, f2⟩ := fit_spec 5 l a t h.gg (may_shp ha) haw ht.may ht.wf ht.gr h0
  obtain ⟨hk, hl⟩ := flat_leafs hf
  refine ⟨⟨f1.gg, fun b hb => ?_⟩, f1.dom, by rw [putT_sub (may_dle ha)]; exact f2⟩
  have e := gB_mem f1.gg.gb.ris hb
  rw [← e]
  rcases (f1.dom b.name).1 ((hasB_iff _ _).2 ⟨b, hb, rfl⟩) with h1 | h1
  · rw [(f1.old _ h1).2]
    obtain ⟨c, hc, h2⟩ := (hasB_iff l b.name).1 h1
    rw [← h2, gB_mem h.gg.gb.ris hc]
    exact h.leaf c hc
  · rcases (Tm.occ_iff _ a).1 h1 with ⟨h2, _⟩ | ⟨u, hu, h2⟩
    · omega
    · have hul := hl u hu
      rcases (Tm.occ_iff _ u).1 h2 with ⟨h3, h4⟩ | ⟨v, hv, _⟩
      · have h5 : u.sub (gB (fitR 5 l a t).1) ∈ t.args := by
          have e2 := congrArg Tm.args f2
          rw [Tm.sub_eq, if_neg (by omega)] at e2
          rw [← e2]
          exact List.mem_map.2 ⟨u, hu, rfl⟩
        rw [Tm.sub_eq, if_pos h3, h4] at h5
        exact ht.leaf _ h5
      · rw [hul] at hv; cases hv
theorem head_atk {l : List Bd} (h : FG l) {t : Tm} (ht : mayT t = true) (hw : t.wf) (hf : flatB t = true) (hb : ∀ y, t.occ y → hasB l y = true) : AtK (putT l t) := by
  have hbok : BOk l := h.gg.gb.bok
  obtain ⟨hk, hl⟩ := flat_leafs hf
  have hs := putT_sub (may_dle ht) l
  refine ⟨putT_wf hbok hw, h.put ht, ?_, ?_, ?_⟩
  · rw [hs]
    intro y hy
    obtain ⟨x, hx, hxy⟩ := (occ_sub _ y t (may_shp ht)).1 hy
    exact (h.gg.get (hb x hx)).1 y hxy
  · rw [hs, Tm.sub_eq, if_neg (by omega)]; exact hk
  · rw [hs, Tm.sub_eq, if_neg (by omega)]
    intro v hv
    obtain ⟨u, hu, rfl⟩ := List.mem_map.1 hv
    rw [Tm.sub_eq]
    split
    · rename_i hk2
      exact (h.get ht u.name ((Tm.occ_iff _ _).2 (.inr ⟨u, hu, (Tm.occ_iff _ _).2 (.inl ⟨hk2, rfl⟩)⟩))).2
    · simp [hl u hu]
end Go.Proofs.YtdecgkhdbfgldaaGreat

set_option linter.unusedVariables false
set_option linter.unusedSimpArgs false
set_option maxRecDepth 8000
namespace Go.Proofs.YtdecgkhdbfgldaaGreat
open Go
def u8 (n : Int) : UInt8 := UInt8.ofNat (n % 256).toNat
theorem wrap_u8 (n : Int) : IntKind.u8.wrap n = ((u8 n).toNat : Int) := by
  have h1 : 0 ≤ n % 256 := Int.emod_nonneg _ (by decide)
  have h2 : n % 256 < 256 := Int.emod_lt_of_pos _ (by decide)
  have e : IntKind.u8.wrap n = n % 256 := by
    simp [IntKind.wrap, IntKind.signed, IntKind.bits]
  rw [e, u8, UInt8.toNat_ofNat']
  omega
def kq (n : Int) : Int := IntKind.u32.wrap (IntKind.i32.wrap n)
def keyL : Nat → Tm → List UInt8
  | 0, _ => []
  | d + 1, t => [u8 t.kind, u8 t.name.size] ++ t.name.data.toList ++ [u8 (kq t.n / 2 ^ min (24 : Int).toNat IntKind.u32.bits), u8 (kq t.n / 2 ^ min (16 : Int).toNat IntKind.u32.bits), u8 (kq t.n / 2 ^ min (8 : Int).toNat IntKind.u32.bits), u8 (kq t.n), u8 t.args.length] ++ (t.args.map (keyL d)).flatten
theorem shp_name {t : Tm} (h : t.shp) : t.name.size ≤ 16 := by
  have hw : ∀ p, wordB p t.name = true → t.name.size ≤ 16 := fun p hp => by
    simp only [wordB, Bool.and_eq_true, decide_eq_true_eq] at hp
    exact hp.1.1.2
  rcases ((Tm.shp_iff t).1 h).1 with ⟨_, h, _⟩ | ⟨_, _, h, _⟩ | ⟨_, h, _⟩
  · exact hw _ h
  · omega
  · exact hw _ h
theorem keyL_len : ∀ (d : Nat) (t : Tm), t.shp → (keyL d t).length ≤ 23 * t.sz
  | 0, t, _ => by simp [keyL]
  | d + 1, t, h => by
    have hn := shp_name h
    have e : t.name.data.toList.length = t.name.size := by simp
    have key : ∀ l : List Tm, (∀ u ∈ l, u.shp) → (l.map (keyL d)).flatten.length ≤ 23 * (l.map Tm.sz).sum := fun l => by
      induction l with
      | nil => intro _; simp
      | cons a l ih =>
        intro hl
        have h1 := ih fun u hu => hl u (by simp [hu])
        have h2 := keyL_len d a (hl a (by simp))
        simp only [List.map_cons, List.flatten_cons, List.length_append, List.sum_cons]
        omega
    have h3 := key t.args fun u hu => h.arg hu
    rw [Tm.sz_eq, keyL]
    simp only [List.length_append, List.length_cons, List.length_nil, e]
    omega
theorem Key_ok : ∀ (d : Nat) (t : Tm), dle d t → t.shp → t.wf → t.sz ≤ 1000 → PF 195 [tmA false t] (sv ⟨(keyL d t).toArray⟩)
  | 0, t, h, _, _, _ => h.elim
  | d + 1, t, h, hs, ht, hz => by
    have hlen := tmDs_length t.args
    have hal : t.args.length ≤ 4 := by
      rcases ((Tm.shp_iff t).1 hs).1 with ⟨_, _, _, e⟩ | ⟨_, _, _, e⟩ | ⟨_, _, _, e⟩ <;> simp_all
    have hnm := shp_name hs
    have hkl := keyL_len (d + 1) t hs
    have hk2 : (keyL (d + 1) t).length = 7 + t.name.size + ((t.args.map (keyL d)).flatten).length := by
      have e : t.name.data.toList.length = t.name.size := by simp
      rw [keyL]; simp only [List.length_append, List.length_cons, List.length_nil, e]; omega
    have e8 : ∀ l : List UInt8, (ByteArray.mk l.toArray).size = l.length := fun l => by simp [ByteArray.size]
    refine AC_intro Tryz.func195 rfl Tryz.ntmps195 (Nat.le_of_ble_eq_true rfl) fun c hL hQ hDD => ?_; refine awp_seq ?_; refine awp_region ?_; refine awps_stp1 rfl rfl (by decide) (stp_box 1 rfl rfl rfl) rfl ?_; refine awps_stp0 rfl rfl (by decide) (stp_move (.inr rfl) rfl) ?_; refine awps_nil ?_; refine thenQ_nil ?_; refine awp_seq ?_; refine awp_region ?_
    first | refine awps_stp0 rfl rfl (by decide) (stp_fieldAddr rfl fo_api_Term_0 rfl) ?_ | refine awps_stp0 rfl rfl (by decide) (stp_fieldAddr_elp rfl fo_api_Term_0 rfl) ?_
    first | refine awps_stp0 rfl rfl (by decide) (stp_load rfl tf_int rfl rfl rfl rfl rfl) ?_ | refine awps_stp0 rfl rfl (by decide) (stp_load_elp1 rfl tf_int rfl) ?_ | refine awps_stp0 rfl rfl (by decide) (stp_load_elpn rfl tf_int rfl rfl rfl) ?_
    refine awps_stp0 rfl rfl (by decide) (stp_conv rfl us_int ul_uint8 rfl) ?_
    first | refine awps_stp0 rfl rfl (by decide) (stp_fieldAddr rfl fo_api_Term_1 rfl) ?_ | refine awps_stp0 rfl rfl (by decide) (stp_fieldAddr_elp rfl fo_api_Term_1 rfl) ?_
    first | refine awps_stp0 rfl rfl (by decide) (stp_load rfl tf_string rfl rfl rfl rfl rfl) ?_ | refine awps_stp0 rfl rfl (by decide) (stp_load_elp1 rfl tf_string rfl) ?_ | refine awps_stp0 rfl rfl (by decide) (stp_load_elpn rfl tf_string rfl rfl rfl) ?_
    refine awps_stp0 rfl rfl (by decide) (stp_len_str rfl ul_string rfl) ?_; refine awps_stp0 rfl rfl (by decide) (stp_conv rfl us_int ul_uint8 rfl) ?_
    rw [wrap_u8, wrap_u8]
    refine awps_stp1 rfl rfl (by decide) (stp_buildSlice 14 rfl sl_S_uint8 zv_uint8 rfl rfl (by decide) (by decide) (by decide) rfl rfl rfl) rfl ?_; refine awps_rowd 14 false 2 rfl rfl rfl rfl ?_; refine awps_stp0 rfl rfl (by decide) (stp_move (.inr rfl) rfl) ?_; refine awps_nil ?_; refine thenQ_nil ?_; refine awp_seq ?_; refine awp_region ?_
    refine awps_stp0 rfl rfl (by decide) (stp_move (.inl rfl) rfl) ?_
    first | refine awps_stp0 rfl rfl (by decide) (stp_fieldAddr rfl fo_api_Term_1 rfl) ?_ | refine awps_stp0 rfl rfl (by decide) (stp_fieldAddr_elp rfl fo_api_Term_1 rfl) ?_
    first | refine awps_stp0 rfl rfl (by decide) (stp_load rfl tf_string rfl rfl rfl rfl rfl) ?_ | refine awps_stp0 rfl rfl (by decide) (stp_load_elp1 rfl tf_string rfl) ?_ | refine awps_stp0 rfl rfl (by decide) (stp_load_elpn rfl tf_string rfl rfl rfl) ?_
    refine awps_append_str 18 ta_S_uint8 (by kernel_rfl) ul_string rfl rfl (by decide) rfl rfl rfl (noL hL _) rfl rfl (by simp [chunk]; omega) ?_; refine awps_stp0 rfl rfl (by decide) (stp_move (.inr rfl) rfl) ?_; refine awps_nil ?_; refine thenQ_nil ?_; refine awp_seq ?_; refine awp_region ?_
    first | refine awps_stp0 rfl rfl (by decide) (stp_fieldAddr rfl fo_api_Term_2 rfl) ?_ | refine awps_stp0 rfl rfl (by decide) (stp_fieldAddr_elp rfl fo_api_Term_2 rfl) ?_
    first | refine awps_stp0 rfl rfl (by decide) (stp_load rfl tf_int rfl rfl rfl rfl rfl) ?_ | refine awps_stp0 rfl rfl (by decide) (stp_load_elp1 rfl tf_int rfl) ?_ | refine awps_stp0 rfl rfl (by decide) (stp_load_elpn rfl tf_int rfl rfl rfl) ?_
    refine awps_stp0 rfl rfl (by decide) (stp_conv rfl us_int ul_int32 rfl) ?_; refine awps_stp0 rfl rfl (by decide) (stp_conv rfl us_int32 ul_uint32 rfl) ?_; refine awps_stp0 rfl rfl (by decide) (stp_move (.inr rfl) rfl) ?_; refine awps_nil ?_; refine thenQ_nil ?_; refine awp_seq ?_; refine awp_region ?_; refine awps_stp0 rfl rfl (by decide) (stp_move (.inl rfl) rfl) ?_
    refine awps_stp0 rfl rfl (by decide) (stp_move (.inl rfl) rfl) ?_; refine awps_stp0 rfl rfl (by decide) (stp_shr rfl rfl rfl (by decide)) ?_; refine awps_stp0 rfl rfl (by decide) (stp_conv rfl us_uint32 ul_uint8 rfl) ?_; refine awps_stp0 rfl rfl (by decide) (stp_move (.inl rfl) rfl) ?_; refine awps_stp0 rfl rfl (by decide) (stp_shr rfl rfl rfl (by decide)) ?_
    refine awps_stp0 rfl rfl (by decide) (stp_conv rfl us_uint32 ul_uint8 rfl) ?_; refine awps_stp0 rfl rfl (by decide) (stp_move (.inl rfl) rfl) ?_; refine awps_stp0 rfl rfl (by decide) (stp_shr rfl rfl rfl (by decide)) ?_; refine awps_stp0 rfl rfl (by decide) (stp_conv rfl us_uint32 ul_uint8 rfl) ?_; refine awps_stp0 rfl rfl (by decide) (stp_move (.inl rfl) rfl) ?_
    refine awps_stp0 rfl rfl (by decide) (stp_conv rfl us_uint32 ul_uint8 rfl) ?_
    first | refine awps_stp0 rfl rfl (by decide) (stp_fieldAddr rfl fo_api_Term_3 rfl) ?_ | refine awps_stp0 rfl rfl (by decide) (stp_fieldAddr_elp rfl fo_api_Term_3 rfl) ?_
    first | refine awps_stp0 rfl rfl (by decide) (stp_load rfl tf_S_api_Term rfl rfl rfl rfl rfl) ?_ | refine awps_stp0 rfl rfl (by decide) (stp_load_elp1 rfl tf_S_api_Term rfl) ?_ | refine awps_stp0 rfl rfl (by decide) (stp_load_elpn rfl tf_S_api_Term rfl rfl rfl) ?_
    first | refine awps_stp0 rfl rfl (by decide) (stp_len_dat rfl sl_S_api_Term rfl) ?_ | refine awps_stp0 rfl rfl (by decide) (stp_len_rowd rfl sl_S_api_Term rfl rfl) ?_ | refine awps_stp0 rfl rfl (by decide) (stp_len_nil rfl sl_S_api_Term rfl) ?_ | refine awps_stp0 rfl rfl (by decide) (stp_len_vw rfl sl_S_api_Term rfl) ?_
    refine awps_stp0 rfl rfl (by decide) (stp_conv rfl us_int ul_uint8 rfl) ?_
    simp only [wrap_u8]
    refine awps_stp1 rfl rfl (by decide) (stp_buildSlice 39 rfl sl_S_uint8 zv_uint8 rfl rfl (by decide) (by decide) (by decide) rfl rfl rfl) rfl ?_; refine awps_rowd 39 false 5 rfl rfl rfl rfl ?_
    refine awps_append_src 40 ta_S_uint8 rfl rfl (by decide) rfl rfl rfl (src_rowd rfl rfl) rfl (fun d hd => by simp only [chunk, List.take, List.drop, List.mem_cons, List.not_mem_nil, or_false] at hd; rcases hd with rfl | rfl | rfl | rfl | rfl <;> rfl) (noL hL _) rfl (by simp [chunk, btL_length]; omega) rfl ?_; refine awps_stp0 rfl rfl (by decide) (stp_move (.inr rfl) rfl) ?_
    refine awps_nil ?_; refine thenQ_nil ?_; refine awp_seq ?_; refine awp_seq ?_; refine awp_region ?_
    first | refine awps_stp0 rfl rfl (by decide) (stp_fieldAddr rfl fo_api_Term_3 rfl) ?_ | refine awps_stp0 rfl rfl (by decide) (stp_fieldAddr_elp rfl fo_api_Term_3 rfl) ?_
    first | refine awps_stp0 rfl rfl (by decide) (stp_load rfl tf_S_api_Term rfl rfl rfl rfl rfl) ?_ | refine awps_stp0 rfl rfl (by decide) (stp_load_elp1 rfl tf_S_api_Term rfl) ?_ | refine awps_stp0 rfl rfl (by decide) (stp_load_elpn rfl tf_S_api_Term rfl rfl rfl) ?_
    first | refine awps_stp0 rfl rfl (by decide) (stp_len_dat rfl sl_S_api_Term rfl) ?_ | refine awps_stp0 rfl rfl (by decide) (stp_len_rowd rfl sl_S_api_Term rfl rfl) ?_ | refine awps_stp0 rfl rfl (by decide) (stp_len_nil rfl sl_S_api_Term rfl) ?_ | refine awps_stp0 rfl rfl (by decide) (stp_len_vw rfl sl_S_api_Term rfl) ?_
    refine awps_stp0 rfl rfl (by decide) (stp_move (.inl rfl) rfl) ?_; refine awps_nil ?_; refine thenQ_nil ?_; refine awp_block ?_
    refine awp_while (t.args.length) (fun k => k ≤ t.args.length) (fun k => ⟨[(3, .row 3), (42, .dat false 4 (tmDs t.args)), (43, iv (tmDs t.args).length), (44, iv (k : Int))], [(3, .rowd 5 1 false (btL ([u8 t.kind, u8 t.name.size] ++ t.name.data.toList ++ [u8 (kq t.n / 2 ^ min (24 : Int).toNat IntKind.u32.bits), u8 (kq t.n / 2 ^ min (16 : Int).toNat IntKind.u32.bits), u8 (kq t.n / 2 ^ min (8 : Int).toNat IntKind.u32.bits), u8 (kq t.n), u8 t.args.length] ++ ((t.args.take k).map (keyL d)).flatten)))]⟩) (by omega) ?_ (fun k hk hp => ?_)
    · exact Sub.trans (sub_rename 40 3 (noL hL _) (noL hL _)) (sub_re (SubT.cons (lk_eq rfl (by first | rfl | simp)) (SubT.cons (lk_eq rfl (by first | rfl | simp)) (SubT.cons (lk_eq rfl (by first | rfl | simp)) (SubT.cons (lk_eq rfl (by first | rfl | simp)) (SubT.nil))))) (SubO.cons (ok_eq rfl (by simp [btL, chunk, hlen]; rfl)) (SubO.nil)) rfl rfl (noL' (noL hL) _))
    have hfl := flat_le (t.args.map (keyL d)) k
    rw [← List.map_take] at hfl
    have hbl := btL_length ([u8 t.kind, u8 t.name.size] ++ t.name.data.toList ++ [u8 (kq t.n / 2 ^ min (24 : Int).toNat IntKind.u32.bits), u8 (kq t.n / 2 ^ min (16 : Int).toNat IntKind.u32.bits), u8 (kq t.n / 2 ^ min (8 : Int).toNat IntKind.u32.bits), u8 (kq t.n), u8 t.args.length] ++ ((t.args.take k).map (keyL d)).flatten)
    have hbl2 : ([u8 t.kind, u8 t.name.size] ++ t.name.data.toList ++ [u8 (kq t.n / 2 ^ min (24 : Int).toNat IntKind.u32.bits), u8 (kq t.n / 2 ^ min (16 : Int).toNat IntKind.u32.bits), u8 (kq t.n / 2 ^ min (8 : Int).toNat IntKind.u32.bits), u8 (kq t.n), u8 t.args.length] ++ ((t.args.take k).map (keyL d)).flatten).length = 7 + t.name.size + (((t.args.take k).map (keyL d)).flatten).length := by
      have e : t.name.data.toList.length = t.name.size := by simp
      simp only [List.length_append, List.length_cons, List.length_nil, e]; omega
    refine awp_seq ?_; refine awp_region ?_; refine awps_stp0 rfl rfl (by decide) (stp_binI rfl rfl rfl rfl) ?_; refine awps_nil ?_; refine thenQ_nil ?_; refine awp_seq ?_; refine awp_cond rfl (fun c0 => ?_) (fun c0 => ?_)
    · try simp only [↓cqA, cqB] at c0
      obtain ⟨u, hu⟩ := get_of_lt (l := t.args) (k := k) (by omega)
      have hum := List.mem_of_getElem? hu
      have husz : u.sz ≤ t.sz := by
        have := sum_split (l := t.args) (k := k) (u := u) Tm.sz hu
        rw [Tm.sz_eq t]; omega
      have hul := keyL_len d u (hs.arg hum)
      have hue := e8 (keyL d u)
      refine awp_skip ?_; refine thenQ_nil ?_; refine awp_seq ?_; refine awp_block ?_; refine awp_seq ?_; refine awp_region ?_
      first | refine awps_stp0 rfl rfl (by decide) (stp_indexAddr rfl sl_S_api_Term rfl rfl (by omega) (tmDs_get hu)) ?_ | refine awps_stp0 rfl rfl (by decide) (stp_indexAddr_rowd rfl sl_S_api_Term rfl rfl rfl (by omega) (tmDs_get hu)) ?_ | refine awps_stp0 rfl rfl (by decide) (stp_indexAddr_row rfl sl_S_api_Term rfl rfl rfl (by omega) (tmDs_get hu) (by decide)) ?_
      first | refine awps_stp0 rfl rfl (by decide) (stp_load_all rfl tf_api_Term rfl rfl rfl rfl) ?_ | refine awps_stp0 rfl rfl (by decide) (stp_load rfl tf_api_Term rfl rfl rfl rfl rfl) ?_ | refine awps_stp0 rfl rfl (by decide) (stp_load_elpa rfl tf_api_Term rfl rfl) ?_ | refine awps_stp0 rfl rfl (by decide) (stp_load_elpn rfl tf_api_Term rfl rfl rfl) ?_
      refine awps_stp1 rfl rfl (by decide) (stp_alloc 6 rfl zv_api_Term rfl) rfl ?_; refine awps_store rfl rfl rfl tf_api_Term rfl rfl rfl rfl rfl rfl rfl rfl rfl ?_; refine awps_nil ?_; refine thenQ_nil ?_; refine awp_region ?_; refine awps_stp0 rfl rfl (by decide) (stp_move (.inl rfl) rfl) ?_
      first | refine awps_stp0 rfl rfl (by decide) (stp_load_all rfl tf_api_Term rfl rfl rfl rfl) ?_ | refine awps_stp0 rfl rfl (by decide) (stp_load rfl tf_api_Term rfl rfl rfl rfl rfl) ?_ | refine awps_stp0 rfl rfl (by decide) (stp_load_elpa rfl tf_api_Term rfl rfl) ?_ | refine awps_stp0 rfl rfl (by decide) (stp_load_elpn rfl tf_api_Term rfl rfl rfl) ?_
      refine awps_call (avs := [_]) true rfl rfl rfl (by decide) en_term_Key rfl rfl (Key_ok d u (h u hum) (hs.arg hum) (Tm.wfs_mem ht.2.2.2.2 hum) (by omega)) rfl rfl ?_; refine awps_append_str 51 ta_S_uint8 (by kernel_rfl) ul_string rfl rfl (by decide) rfl rfl rfl (noL hL _) rfl rfl (by omega) ?_; refine awps_stp0 rfl rfl (by decide) (stp_move (.inr rfl) rfl) ?_; refine awps_nil ?_
      refine inQ_nil ?_; refine thenQ_nil ?_; refine awp_region ?_; refine awps_stp0 rfl rfl (by decide) (stp_add rfl rfl rfl (by omega)) ?_; refine awps_stp0 rfl rfl (by decide) (stp_move (.inl rfl) rfl) ?_; refine awps_nil ?_; refine thenQ_nil ?_; refine ⟨?_, ?_, ?_⟩
      · skip
        omega
      · skip
        omega
      exact Sub.trans (sub_rename 51 3 (noL hL _) (noL hL _)) (sub_re (SubT.cons (lk_eq rfl (by first | rfl | simp)) (SubT.cons (lk_eq rfl (by first | rfl | simp)) (SubT.cons (lk_eq rfl (by first | rfl | simp)) (SubT.cons (lk_eq rfl (by first | rfl | simp)) (SubT.nil))))) (SubO.cons (ok_eq rfl (by rw [take_snoc hu, List.map_append, List.flatten_append]; simp [btL]; rfl)) (SubO.nil)) rfl rfl (noL' (noL hL) _))
    try simp only [↓cqA, cqB] at c0
    refine awp_exit ?_; refine thenQ_exit (thenQ_exit (inQ_hit ?_)); refine thenQ_nil ?_; refine awp_seq ?_; refine awp_region ?_; refine awps_stp0 rfl rfl (by decide) (stp_move (.inl rfl) rfl) ?_; refine awps_stp0 rfl rfl (by decide) (stp_conv_bytes rfl (by kernel_rfl) ul_uint8 ul_string rfl rfl) ?_; refine awps_stp0 rfl rfl (by decide) (stp_move (.inr rfl) rfl) ?_; refine awps_nil ?_
    refine thenQ_nil ?_; refine awp_ret ?_
    -- leaf 0F
    refine ret0 (noL hL) (.inl rfl) (resAs_tmp rfl (resAs_nil)) ?_ ?_
    · rfl
    refine ⟨?_, rfl⟩
    rw [List.take_of_length_le (by omega), keyL]; rfl
end Go.Proofs.YtdecgkhdbfgldaaGreat

set_option linter.unusedVariables false
set_option linter.unusedSimpArgs false
set_option maxRecDepth 8000
namespace Go.Proofs.YtdecgkhdbfgldaaGreat
open Go Go.Maps
theorem LOz {c : Ctx} {Oin O1 : List (Nat × Ob)} (hL : ∀ l, c.L l ↔ inD Oin l = true) (h : (Oin.all fun p => inD O1 p.1) = true) : ∀ l, c.L l → inD O1 l = true := fun l hl => by
  obtain ⟨p, hp, rfl⟩ := inD_mem ((hL l).1 hl)
  exact List.all_eq_true.1 h p hp
def holdsC (l : List Bd) (g : Gd) : Bool := knownC g.kind (putT l g.l) (putT l g.r)
theorem knownHolds_ok (l : List Bd) (hl : FG l) (g : Gd) (hg : g.wf) (hc : cmpsB g = true) : PF 241 [bdA l, .agg (lift false (gdD g))] (bv (holdsC l g)) := by
  have hbok : BOk l := hl.gg.gb.bok
  simp only [cmpsB, Bool.and_eq_true, decide_eq_true_eq] at hc
  have h1 := hl.put hc.1.2
  have h2 := hl.put hc.2
  have w1 := putT_wf hbok hg.2.1
  have w2 := putT_wf hbok hg.2.2
  refine AC_intro Tryz.func241 rfl Tryz.ntmps241 (Nat.le_of_ble_eq_true rfl) fun c hL hQ hDD => ?_; refine awp_seq ?_; refine awp_region ?_; refine awps_stp1 rfl rfl (by decide) (stp_box 3 rfl rfl rfl) rfl ?_; refine awps_stp0 rfl rfl (by decide) (stp_move (.inr rfl) rfl) ?_; refine awps_nil ?_; refine thenQ_nil ?_; refine awp_seq ?_; refine awp_drawG 10 mixed rfl rfl rfl rfl ?_
  first | refine MGo_c0 rfl (by decide) (.run rfl (stp_fieldAddr rfl fo_api_Guard_0 rfl)) ?_ | refine MGo_c0 rfl (by decide) (.run rfl (stp_fieldAddr_elp rfl fo_api_Guard_0 rfl)) ?_
  first | refine MGo_c0 rfl (by decide) (.run rfl (stp_load rfl tf_int rfl rfl rfl rfl rfl)) ?_ | refine MGo_c0 rfl (by decide) (.run rfl (stp_load_elp1 rfl tf_int rfl)) ?_ | refine MGo_c0 rfl (by decide) (.run rfl (stp_load_elpn rfl tf_int rfl rfl rfl)) ?_
  refine MGo_c0 rfl (by decide) (.run rfl (stp_move (.inl rfl) rfl)) ?_
  first | refine MGo_c0 rfl (by decide) (.run rfl (stp_fieldAddr rfl fo_api_Guard_1 rfl)) ?_ | refine MGo_c0 rfl (by decide) (.run rfl (stp_fieldAddr_elp rfl fo_api_Guard_1 rfl)) ?_
  first | refine MGo_c0 rfl (by decide) (.run rfl (stp_load_all rfl tf_api_Term rfl rfl rfl rfl)) ?_ | refine MGo_c0 rfl (by decide) (.run rfl (stp_load rfl tf_api_Term rfl rfl rfl rfl rfl)) ?_ | refine MGo_c0 rfl (by decide) (.run rfl (stp_load_elpa rfl tf_api_Term rfl rfl)) ?_ | refine MGo_c0 rfl (by decide) (.run rfl (stp_load_elpn rfl tf_api_Term rfl rfl rfl)) ?_
  refine MGo_c0 rfl (by decide) (.run rfl (stp_call (avs := [_, _]) true rfl en_bind_Put rfl rfl (Put_ok l hbok g.l (may_dle hc.1.2) hg.2.1) (fun _ => rfl) rfl)) ?_; refine MGo_c0 rfl (by decide) (.run rfl (stp_move (.inl rfl) rfl)) ?_
  first | refine MGo_c0 rfl (by decide) (.run rfl (stp_fieldAddr rfl fo_api_Guard_2 rfl)) ?_ | refine MGo_c0 rfl (by decide) (.run rfl (stp_fieldAddr_elp rfl fo_api_Guard_2 rfl)) ?_
  first | refine MGo_c0 rfl (by decide) (.run rfl (stp_load_all rfl tf_api_Term rfl rfl rfl rfl)) ?_ | refine MGo_c0 rfl (by decide) (.run rfl (stp_load rfl tf_api_Term rfl rfl rfl rfl rfl)) ?_ | refine MGo_c0 rfl (by decide) (.run rfl (stp_load_elpa rfl tf_api_Term rfl rfl)) ?_ | refine MGo_c0 rfl (by decide) (.run rfl (stp_load_elpn rfl tf_api_Term rfl rfl rfl)) ?_
  refine MGo_c0 rfl (by decide) (.run rfl (stp_call (avs := [_, _]) true rfl en_bind_Put rfl rfl (Put_ok l hbok g.r (may_dle hc.2) hg.2.2) (fun _ => rfl) rfl)) ?_; refine MGo_nil ⟨rfl, rfl, ?_⟩; refine awps_call (avs := [_, _, _]) true rfl rfl rfl (by decide) en_known_Compare rfl rfl (knownCompare_ok g.kind (putT l g.l) (putT l g.r) (may_dle h1) w1 w2) rfl rfl ?_
  refine awps_stp0 rfl rfl (by decide) (stp_move (.inr rfl) rfl) ?_; refine awps_nil ?_; refine thenQ_nil ?_; refine awp_ret ?_
  -- leaf 
  refine ret0 (noL hL) (.inl rfl) (resAs_tmp rfl (resAs_nil)) ?_ ?_
  · rfl
  exact ⟨rfl, rfl⟩
theorem seek1_ok (l : List Bd) (hl : FG l) (g : Gd) (hg : g.wf) (hc : cmpsB g = true) : AC Tryz.prog 240 [.agg (lift false (gdD g)), .ptr 8 0] [(8, .box [bdA l])] (fun r O => r = bv (!(holdsC l g)) ∧ O = [(8, .box [bdA l])]) := by
  refine AC_intro Tryz.func240 rfl Tryz.ntmps240 (Nat.le_of_ble_eq_true rfl) fun c hL hQ hDD => ?_; refine awp_seq ?_; refine awp_region ?_; refine awps_stp1 rfl rfl (by decide) (stp_box 2 rfl rfl rfl) rfl ?_; refine awps_stp0 rfl rfl (by decide) (stp_move (.inr rfl) rfl) ?_; refine awps_nil ?_; refine thenQ_nil ?_; refine awp_seq ?_; refine awp_region ?_
  first | refine awps_stp0 rfl rfl (by decide) (stp_load rfl tf_S_api_Bind rfl rfl rfl rfl rfl) ?_ | refine awps_stp0 rfl rfl (by decide) (stp_load_elp1 rfl tf_S_api_Bind rfl) ?_ | refine awps_stp0 rfl rfl (by decide) (stp_load_elpn rfl tf_S_api_Bind rfl rfl rfl) ?_
  first | refine awps_stp0 rfl rfl (by decide) (stp_load_all rfl tf_api_Guard rfl rfl rfl rfl) ?_ | refine awps_stp0 rfl rfl (by decide) (stp_load rfl tf_api_Guard rfl rfl rfl rfl rfl) ?_ | refine awps_stp0 rfl rfl (by decide) (stp_load_elpa rfl tf_api_Guard rfl rfl) ?_ | refine awps_stp0 rfl rfl (by decide) (stp_load_elpn rfl tf_api_Guard rfl rfl rfl) ?_
  refine awps_call (avs := [_, _]) false rfl rfl rfl (by decide) en_known_holds rfl rfl (knownHolds_ok l hl g hg hc) rfl rfl ?_; refine awps_stp0 rfl rfl (by decide) (stp_not rfl rfl) ?_; refine awps_stp0 rfl rfl (by decide) (stp_move (.inr rfl) rfl) ?_; refine awps_nil ?_; refine thenQ_nil ?_; refine awp_ret ?_
  -- leaf 
  change retQ _ _ _ _ _ _ _
  refine retO (O' := [(8, _)]) (.inl rfl) (resAs_tmp rfl resAs_nil) (SubO.cons rfl SubO.nil) ?_ ?_ (LO hL rfl) ?_
  · rfl
  · rfl
  exact ⟨rfl, rfl⟩
noncomputable abbrev fndK (kvs : List (Lit × List D)) : Ob := .mx false Tryz.prog 9 kvs none
def keyM (t : Tm) : Lit := .string (keyL 5 t)
def addM (kvs : List (Lit × List D)) (ts : List Tm) : List (Lit × List D) := ts.foldl (fun m t => mvPut (keyM t) (tmD t) m) kvs
theorem mvPut_len (kl : Lit) (ds : List D) (kvs : List (Lit × List D)) : (mvPut kl ds kvs).length ≤ kvs.length + 1 := by
  simp only [mvPut, mvDel, List.length_cons]
  have := List.length_filter_le (fun p : Lit × List D => !p.1.sameKey kl) kvs
  omega
theorem addM_len : ∀ (ts : List Tm) (kvs : List (Lit × List D)), (addM kvs ts).length ≤ kvs.length + ts.length
  | [], kvs => by simp [addM]
  | t :: ts, kvs => by
    have h1 := addM_len ts (mvPut (keyM t) (tmD t) kvs)
    have h2 := mvPut_len (keyM t) (tmD t) kvs
    simp only [addM, List.foldl_cons, List.length_cons] at h1 ⊢
    omega
theorem addM_app (kvs : List (Lit × List D)) (a b : List Tm) : addM kvs (a ++ b) = addM (addM kvs a) b := by simp [addM]
def seekL (gs : List Gd) (head : Tm) (k : List Tm) : List Tm → List Bd → List Tm
  | [], l => if gs.all (holdsC l) = true then [putT l head] else []
  | a :: bs, l => k.flatMap fun t => if (fitR 5 l a t).2 = 0 then seekL gs head k bs (fitR 5 l a t).1 else []
theorem flatMap_take {α β : Type} (f : α → List β) {k : List α} {i : Nat} {t : α} (ht : k[i]? = some t) : (k.take (i + 1)).flatMap f = (k.take i).flatMap f ++ f t := by
  rw [take_snoc ht, List.flatMap_append]; simp
theorem flatMap_take_le {α β : Type} (f : α → List β) (k : List α) (i : Nat) : ((k.take i).flatMap f).length ≤ (k.flatMap f).length := by
  have : k.flatMap f = (k.take i).flatMap f ++ (k.drop i).flatMap f := by rw [← List.flatMap_append, List.take_append_drop]
  rw [this, List.length_append]; omega
theorem keyOf_key {t : Tm} (h : mayT t = true) : keyOf Tryz.prog 9 (.string ⟨(keyL 5 t).toArray⟩) = some (keyM t) := by
  have h2 := ((mayT_iff t).1 h).2.2
  have h3 := keyL_len 5 t (may_shp h)
  exact Go.WideMaps.keyOf_string_mk ul_string (by simp only [ByteArray.size, maxLen]; simp; omega)
theorem seek_step (q : Cl) (hq : q.wf) (hcb : clauseB q = true) (k : List Tm) (hk : ∀ t ∈ k, AtK t) (hkl : k.length ≤ 1000) (i0 : Nat) (hi0 : i0 ≤ q.body.length) (l : List Bd) (hl : FG l) (kvs : List (Lit × List D)) (hB : kvs.length + (seekL q.guards q.head k (q.body.drop i0) l).length ≤ 10000000)
    (ih : i0 < q.body.length → ∀ (l' : List Bd) (kvs' : List (Lit × List D)), FG l' → kvs'.length + (seekL q.guards q.head k (q.body.drop (i0 + 1)) l').length ≤ 10000000 → AC Tryz.prog 194 [clA q, .dat false 4 (tmDs k), iv ((i0 : Int) + 1), bdA l', .map 4] [(4, fndK kvs')] (fun r O => r = .tup [] ∧ O = [(4, fndK (addM kvs' (seekL q.guards q.head k (q.body.drop (i0 + 1)) l')))])) :
    AC Tryz.prog 194 [clA q, .dat false 4 (tmDs k), iv (i0 : Int), bdA l, .map 4] [(4, fndK kvs)] (fun r O => r = .tup [] ∧ O = [(4, fndK (addM kvs (seekL q.guards q.head k (q.body.drop i0) l)))]) := by
  obtain ⟨hh, ⟨hbl, hbw⟩, hgl, hgw⟩ := id hq
  have hlb := tmDs_length q.body
  have hlg := gdDs_length q.guards
  have hlk := tmDs_length k
  simp only [lenOk] at hbl hgl
  have hcb2 := hcb
  simp only [clauseB, atomB, Bool.and_eq_true, decide_eq_true_eq, List.all_eq_true] at hcb2
  obtain ⟨⟨⟨⟨⟨hhm, hhf⟩, hb3⟩, hg4⟩, hba⟩, hga⟩ := hcb2
  have hbok : BOk l := hl.gg.gb.bok
  have hmx : maxLen = 9223372036854775807 := rfl
  have hpm := hl.put hhm
  refine AC_intro Tryz.func194 rfl Tryz.ntmps194 (Nat.le_of_ble_eq_true rfl) fun c hL hQ hDD => ?_; refine awp_seq ?_; refine awp_region ?_; refine awps_stp1 rfl rfl (by decide) (stp_box 5 rfl rfl rfl) rfl ?_; refine awps_stp1 rfl rfl (by decide) (stp_box 8 rfl rfl rfl) rfl ?_; refine awps_nil ?_; refine thenQ_nil ?_; refine awp_seq ?_; refine awp_seq ?_; refine awp_region ?_
  refine awps_stp0 rfl rfl (by decide) (stp_move (.inl rfl) rfl) ?_
  first | refine awps_stp0 rfl rfl (by decide) (stp_fieldAddr rfl fo_api_Clause_1 rfl) ?_ | refine awps_stp0 rfl rfl (by decide) (stp_fieldAddr_elp rfl fo_api_Clause_1 rfl) ?_
  first | refine awps_stp0 rfl rfl (by decide) (stp_load rfl tf_S_api_Term rfl rfl rfl rfl rfl) ?_ | refine awps_stp0 rfl rfl (by decide) (stp_load_elp1 rfl tf_S_api_Term rfl) ?_ | refine awps_stp0 rfl rfl (by decide) (stp_load_elpn rfl tf_S_api_Term rfl rfl rfl) ?_
  first | refine awps_stp0 rfl rfl (by decide) (stp_len_dat rfl sl_S_api_Term rfl) ?_ | refine awps_stp0 rfl rfl (by decide) (stp_len_rowd rfl sl_S_api_Term rfl rfl) ?_ | refine awps_stp0 rfl rfl (by decide) (stp_len_nil rfl sl_S_api_Term rfl) ?_ | refine awps_stp0 rfl rfl (by decide) (stp_len_vw rfl sl_S_api_Term rfl) ?_
  refine awps_stp0 rfl rfl (by decide) (stp_binI rfl rfl rfl rfl) ?_; refine awps_nil ?_; refine thenQ_nil ?_; refine awp_cond rfl (fun c0 => ?_) (fun c0 => ?_)
  · try simp only [↓cqA, cqB] at c0
    have hn : q.body.drop i0 = [] := List.drop_eq_nil_of_le (by omega)
    rw [hn, seekL] at hB
    rw [hn, seekL]
    refine awp_seq ?_; refine awp_seq ?_; refine awp_region ?_
    first | refine awps_stp0 rfl rfl (by decide) (stp_fieldAddr rfl fo_api_Clause_2 rfl) ?_ | refine awps_stp0 rfl rfl (by decide) (stp_fieldAddr_elp rfl fo_api_Clause_2 rfl) ?_
    first | refine awps_stp0 rfl rfl (by decide) (stp_load rfl tf_S_api_Guard rfl rfl rfl rfl rfl) ?_ | refine awps_stp0 rfl rfl (by decide) (stp_load_elp1 rfl tf_S_api_Guard rfl) ?_ | refine awps_stp0 rfl rfl (by decide) (stp_load_elpn rfl tf_S_api_Guard rfl rfl rfl) ?_
    refine awps_stp0 rfl rfl (by decide) (stp_makeFunc (vs := [_]) rfl rfl) ?_
    refine awps_callP (avs := [_, _]) false rfl rfl rfl (by decide) en_slices_ContainsFunc_api_Guard_api_Guard rfl rfl (ContainsFunc_gd_ok false q.guards _ rfl (by omega) _ [.ptr 8 0] en_known_seek_1 (fun _ => [(8, .box [bdA l])]) (fun j => match q.guards[j]? with | some g => !(holdsC l g) | none => false) ⟨fun k l => rfl, fun k => passO (.cons rfl trivial rfl .nil), fun k => rfl, fun k => rfl, fun k => rfl, fun k => rfl, fun h => by cases h⟩ (fun j g hg _ => by rw [hg]; exact seek1_ok l hl g (hgw g (List.mem_of_getElem? hg)) (hga g (List.mem_of_getElem? hg)))) (rfl) (passO (.cons rfl trivial rfl .nil)) (by rintro r O' ⟨m, n, b, _, _, _, _, rfl⟩; exact frB rfl) (by rintro h; cases h) ?_
    rintro r O' ⟨m, n, b, hm1, hf1, hc1, rfl, rfl⟩
    have hb1 := cont_all (l := q.guards) (p := holdsC l) (fun j x hx => by simp only [hx]) hf1 hc1
    refine awps_stp0 rfl rfl (by decide) (stp_not rfl rfl) ?_; refine awps_nil ?_; refine thenQ_nil ?_; refine awp_cond rfl (fun c1 => ?_) (fun c1 => ?_)
    · try simp only [↓cqA, cqB] at c1
      have hall : q.guards.all (holdsC l) = true := by rw [hb1] at c1; simpa using c1
      rw [if_pos hall] at hB
      rw [if_pos hall]
      refine awp_seq ?_; refine awp_region ?_
      first | refine awps_stp0 rfl rfl (by decide) (stp_load rfl tf_S_api_Bind rfl rfl rfl rfl rfl) ?_ | refine awps_stp0 rfl rfl (by decide) (stp_load_elp1 rfl tf_S_api_Bind rfl) ?_ | refine awps_stp0 rfl rfl (by decide) (stp_load_elpn rfl tf_S_api_Bind rfl rfl rfl) ?_
      first | refine awps_stp0 rfl rfl (by decide) (stp_fieldAddr rfl fo_api_Clause_0 rfl) ?_ | refine awps_stp0 rfl rfl (by decide) (stp_fieldAddr_elp rfl fo_api_Clause_0 rfl) ?_
      first | refine awps_stp0 rfl rfl (by decide) (stp_load_all rfl tf_api_Term rfl rfl rfl rfl) ?_ | refine awps_stp0 rfl rfl (by decide) (stp_load rfl tf_api_Term rfl rfl rfl rfl rfl) ?_ | refine awps_stp0 rfl rfl (by decide) (stp_load_elpa rfl tf_api_Term rfl rfl) ?_ | refine awps_stp0 rfl rfl (by decide) (stp_load_elpn rfl tf_api_Term rfl rfl rfl) ?_
      refine awps_call (avs := [_, _]) true rfl rfl rfl (by decide) en_bind_Put rfl rfl (Put_ok l hbok q.head (may_dle hhm) hh) rfl rfl ?_; refine awps_stp1 rfl rfl (by decide) (stp_alloc 10 rfl zv_api_Term rfl) rfl ?_; refine awps_store rfl rfl rfl tf_api_Term rfl rfl rfl rfl rfl rfl rfl rfl rfl ?_; refine awps_nil ?_; refine thenQ_nil ?_; refine awp_sub (sub_untag hQ) ?_
      refine awp_drawG 4 mixed rfl rfl rfl rfl ?_; refine MGo_c0 rfl (by decide) (.run rfl (stp_move (.inl rfl) rfl)) ?_
      first | refine MGo_c0 rfl (by decide) (.run rfl (stp_load_all rfl tf_api_Term rfl rfl rfl rfl)) ?_ | refine MGo_c0 rfl (by decide) (.run rfl (stp_load rfl tf_api_Term rfl rfl rfl rfl rfl)) ?_ | refine MGo_c0 rfl (by decide) (.run rfl (stp_load_elpa rfl tf_api_Term rfl rfl)) ?_ | refine MGo_c0 rfl (by decide) (.run rfl (stp_load_elpn rfl tf_api_Term rfl rfl rfl)) ?_
      refine MGo_c0 rfl (by decide) (.run rfl (stp_call (avs := [_]) true rfl en_term_Key rfl rfl (Key_ok 5 (putT l q.head) (may_dle hpm) (may_shp hpm) (putT_wf hbok hh) (by have := ((mayT_iff _).1 hpm).2.2; omega)) (fun _ => rfl) rfl)) ?_
      first | refine MGo_c0 rfl (by decide) (.run rfl (stp_load_all rfl tf_api_Term rfl rfl rfl rfl)) ?_ | refine MGo_c0 rfl (by decide) (.run rfl (stp_load rfl tf_api_Term rfl rfl rfl rfl rfl)) ?_ | refine MGo_c0 rfl (by decide) (.run rfl (stp_load_elpa rfl tf_api_Term rfl rfl)) ?_ | refine MGo_c0 rfl (by decide) (.run rfl (stp_load_elpn rfl tf_api_Term rfl rfl rfl)) ?_
      refine MGo_nil ⟨rfl, rfl, ?_⟩; refine awps_mxSet (ds := tmD (putT l q.head)) rfl rfl rfl um_known_found rfl rfl rfl rfl rfl (keyOf_key hpm) (by simp only [List.length_singleton] at hB; omega) ?_; refine awps_nil ?_; refine thenQ_nil ?_; refine awp_ret ?_; refine thenQ_ret (?_)
      -- leaf 0T1T
      change retQ _ _ _ _ _ _ _
      refine retO (O' := [(4, _)]) (by first | exact .inl rfl | exact .inr rfl) resAs_nil (SubO.cons rfl SubO.nil) ?_ ?_ (LO hL rfl) ?_
      · rfl
      · rfl
      exact ⟨rfl, by first | rfl | rw [List.take_of_length_le (by omega)]⟩
    try simp only [↓cqA, cqB] at c1
    have hall : q.guards.all (holdsC l) = false := by rw [hb1] at c1; simpa using c1
    rw [if_neg (by simp [hall])]
    refine awp_skip ?_; refine thenQ_nil ?_; refine awp_ret ?_; refine thenQ_ret (?_)
    -- leaf 0T1F
    change retQ _ _ _ _ _ _ _
    refine retO (O' := [(4, _)]) (by first | exact .inl rfl | exact .inr rfl) resAs_nil (SubO.cons rfl SubO.nil) ?_ ?_ (LO hL rfl) ?_
    · rfl
    · rfl
    exact ⟨rfl, by first | rfl | rw [List.take_of_length_le (by omega)]⟩
  try simp only [↓cqA, cqB] at c0
  obtain ⟨a, ha⟩ := get_of_lt (l := q.body) (k := i0) (by omega)
  have ham := List.mem_of_getElem? ha
  have haw := Tm.wfs_mem hbw ham
  obtain ⟨ha1, ha2⟩ := hba a ham
  have hdr : q.body.drop i0 = a :: q.body.drop (i0 + 1) := by
    obtain ⟨h1, h2⟩ := List.getElem?_eq_some_iff.1 ha
    rw [List.drop_eq_getElem_cons h1, h2]
  have hih := ih (by omega)
  rw [hdr, seekL] at hB
  rw [hdr, seekL]
  refine awp_skip ?_; refine thenQ_nil ?_; refine awp_seq ?_; refine awp_region ?_; refine awps_stp0 rfl rfl (by decide) (stp_move (.inl rfl) rfl) ?_
  first | refine awps_stp0 rfl rfl (by decide) (stp_len_dat rfl sl_S_api_Term rfl) ?_ | refine awps_stp0 rfl rfl (by decide) (stp_len_rowd rfl sl_S_api_Term rfl rfl) ?_ | refine awps_stp0 rfl rfl (by decide) (stp_len_nil rfl sl_S_api_Term rfl) ?_ | refine awps_stp0 rfl rfl (by decide) (stp_len_vw rfl sl_S_api_Term rfl) ?_
  refine awps_stp0 rfl rfl (by decide) (stp_move (.inl rfl) rfl) ?_; refine awps_nil ?_; refine thenQ_nil ?_; refine awp_block ?_
  refine awp_while (k.length) (fun i => i ≤ k.length) (fun i => ⟨[(1, .dat false 4 (tmDs k)), (2, iv (i0 : Int)), (4, .map 4), (5, .ptr 5 0), (8, .ptr 8 0), (33, .dat false 4 (tmDs k)), (34, iv (tmDs k).length), (35, iv (i : Int))], [(4, fndK (addM kvs ((k.take i).flatMap fun t => if (fitR 5 l a t).2 = 0 then seekL q.guards q.head k (q.body.drop (i0 + 1)) (fitR 5 l a t).1 else []))), (5, .box (lift false (clD q))), (8, .box [bdA l])]⟩) (by omega) ?_ (fun i hi hpi => ?_)
  · exact sub_re (SubT.cons (lk_eq rfl (by first | rfl | simp)) (SubT.cons (lk_eq rfl (by first | rfl | simp)) (SubT.cons (lk_eq rfl (by first | rfl | simp)) (SubT.cons (lk_eq rfl (by first | rfl | simp)) (SubT.cons (lk_eq rfl (by first | rfl | simp)) (SubT.cons (lk_eq rfl (by first | rfl | simp)) (SubT.cons (lk_eq rfl (by first | rfl | simp)) (SubT.cons (lk_eq rfl (by first | rfl | simp)) (SubT.nil))))))))) (SubO.cons (ok_eq rfl (by rfl)) (SubO.cons (ok_eq rfl (by rfl)) (SubO.cons (ok_eq rfl (by rfl)) (SubO.nil)))) rfl rfl (LOz hL rfl)
  refine awp_seq ?_; refine awp_region ?_; refine awps_stp0 rfl rfl (by decide) (stp_binI rfl rfl rfl rfl) ?_; refine awps_nil ?_; refine thenQ_nil ?_; refine awp_seq ?_; refine awp_cond rfl (fun c2 => ?_) (fun c2 => ?_)
  · try simp only [↓cqA, cqB] at c2
    obtain ⟨t, ht⟩ := get_of_lt (l := k) (k := i) (by omega)
    have hta := hk t (List.mem_of_getElem? ht)
    have hft := flatMap_take (fun t => if (fitR 5 l a t).2 = 0 then seekL q.guards q.head k (q.body.drop (i0 + 1)) (fitR 5 l a t).1 else []) ht
    have hle := flatMap_take_le (fun t => if (fitR 5 l a t).2 = 0 then seekL q.guards q.head k (q.body.drop (i0 + 1)) (fitR 5 l a t).1 else []) k (i + 1)
    rw [hft, List.length_append] at hle
    have hal := addM_len ((k.take i).flatMap fun t => if (fitR 5 l a t).2 = 0 then seekL q.guards q.head k (q.body.drop (i0 + 1)) (fitR 5 l a t).1 else []) kvs
    refine awp_skip ?_; refine thenQ_nil ?_; refine awp_seq ?_; refine awp_block ?_; refine awp_seq ?_; refine awp_region ?_
    first | refine awps_stp0 rfl rfl (by decide) (stp_indexAddr rfl sl_S_api_Term rfl rfl (by omega) (tmDs_get ht)) ?_ | refine awps_stp0 rfl rfl (by decide) (stp_indexAddr_rowd rfl sl_S_api_Term rfl rfl rfl (by omega) (tmDs_get ht)) ?_ | refine awps_stp0 rfl rfl (by decide) (stp_indexAddr_row rfl sl_S_api_Term rfl rfl rfl (by omega) (tmDs_get ht) (by decide)) ?_
    first | refine awps_stp0 rfl rfl (by decide) (stp_load_all rfl tf_api_Term rfl rfl rfl rfl) ?_ | refine awps_stp0 rfl rfl (by decide) (stp_load rfl tf_api_Term rfl rfl rfl rfl rfl) ?_ | refine awps_stp0 rfl rfl (by decide) (stp_load_elpa rfl tf_api_Term rfl rfl) ?_ | refine awps_stp0 rfl rfl (by decide) (stp_load_elpn rfl tf_api_Term rfl rfl rfl) ?_
    refine awps_stp1 rfl rfl (by decide) (stp_alloc 12 rfl zv_api_Term rfl) rfl ?_; refine awps_store rfl rfl rfl tf_api_Term rfl rfl rfl rfl rfl rfl rfl rfl rfl ?_; refine awps_nil ?_; refine thenQ_nil ?_; refine awp_seq ?_; refine awp_drawG 12 mixed rfl rfl rfl rfl ?_
    first | refine MGo_c0 rfl (by decide) (.run rfl (stp_load rfl tf_S_api_Bind rfl rfl rfl rfl rfl)) ?_ | refine MGo_c0 rfl (by decide) (.run rfl (stp_load_elp1 rfl tf_S_api_Bind rfl)) ?_ | refine MGo_c0 rfl (by decide) (.run rfl (stp_load_elpn rfl tf_S_api_Bind rfl rfl rfl)) ?_
    first | refine MGo_c0 rfl (by decide) (.run rfl (stp_fieldAddr rfl fo_api_Clause_1 rfl)) ?_ | refine MGo_c0 rfl (by decide) (.run rfl (stp_fieldAddr_elp rfl fo_api_Clause_1 rfl)) ?_
    first | refine MGo_c0 rfl (by decide) (.run rfl (stp_load rfl tf_S_api_Term rfl rfl rfl rfl rfl)) ?_ | refine MGo_c0 rfl (by decide) (.run rfl (stp_load_elp1 rfl tf_S_api_Term rfl)) ?_ | refine MGo_c0 rfl (by decide) (.run rfl (stp_load_elpn rfl tf_S_api_Term rfl rfl rfl)) ?_
    refine MGo_c0 rfl (by decide) (.run rfl (stp_move (.inl rfl) rfl)) ?_
    first | refine MGo_c0 rfl (by decide) (.run rfl (stp_indexAddr rfl sl_S_api_Term rfl rfl (by omega) (tmDs_get ha))) ?_ | refine MGo_c0 rfl (by decide) (.run rfl (stp_indexAddr_rowd rfl sl_S_api_Term rfl rfl rfl (by omega) (tmDs_get ha))) ?_ | refine MGo_c0 rfl (by decide) (.run rfl (stp_indexAddr_row rfl sl_S_api_Term rfl rfl rfl (by omega) (tmDs_get ha) (by decide))) ?_
    first | refine MGo_c0 rfl (by decide) (.run rfl (stp_load_all rfl tf_api_Term rfl rfl rfl rfl)) ?_ | refine MGo_c0 rfl (by decide) (.run rfl (stp_load rfl tf_api_Term rfl rfl rfl rfl rfl)) ?_ | refine MGo_c0 rfl (by decide) (.run rfl (stp_load_elpa rfl tf_api_Term rfl rfl)) ?_ | refine MGo_c0 rfl (by decide) (.run rfl (stp_load_elpn rfl tf_api_Term rfl rfl rfl)) ?_
    first | refine MGo_c0 rfl (by decide) (.run rfl (stp_load_all rfl tf_api_Term rfl rfl rfl rfl)) ?_ | refine MGo_c0 rfl (by decide) (.run rfl (stp_load rfl tf_api_Term rfl rfl rfl rfl rfl)) ?_ | refine MGo_c0 rfl (by decide) (.run rfl (stp_load_elpa rfl tf_api_Term rfl rfl)) ?_ | refine MGo_c0 rfl (by decide) (.run rfl (stp_load_elpn rfl tf_api_Term rfl rfl rfl)) ?_
    refine MGo_c0 rfl (by decide) (.run rfl (stp_call (avs := [_, _, _]) false rfl en_unify_Fit rfl rfl (Fit_ok 5 l a t (may_dle ha1) (may_shp ha1) haw hbok hta.wf hta.may) (fun _ => rfl) rfl)) ?_; refine MGo_c0 rfl (by decide) (.run rfl (stp_move (.inl rfl) rfl)) ?_; refine MGo_c0 rfl (by decide) (.run rfl (stp_extract rfl rfl rfl)) ?_
    refine MGo_c0 rfl (by decide) (.run rfl (stp_extract rfl rfl rfl)) ?_; refine MGo_c0 rfl (by decide) (.run rfl (stp_move (.inr rfl) rfl)) ?_; refine MGo_nil ⟨rfl, rfl, ?_⟩; refine awps_stp0 rfl rfl (by decide) (stp_move (.inr rfl) rfl) ?_; refine awps_nil ?_; refine thenQ_nil ?_; refine awp_seq ?_; refine awp_region ?_; refine awps_stp0 rfl rfl (by decide) (stp_move (.inl rfl) rfl) ?_
    refine awps_stp0 rfl rfl (by decide) (stp_binI rfl rfl rfl rfl) ?_; refine awps_nil ?_; refine thenQ_nil ?_; refine awp_cond rfl (fun c3 => ?_) (fun c3 => ?_)
    · try simp only [↓cqA, cqB] at c3
      obtain ⟨hfg, _, _⟩ := fit_leaf hl ha1 haw ha2 hta c3
      rw [if_pos c3] at hft hle
      refine awp_region ?_
      first | refine awps_stp0 rfl rfl (by decide) (stp_load_all rfl tf_api_Clause rfl rfl rfl rfl) ?_ | refine awps_stp0 rfl rfl (by decide) (stp_load rfl tf_api_Clause rfl rfl rfl rfl rfl) ?_ | refine awps_stp0 rfl rfl (by decide) (stp_load_elpa rfl tf_api_Clause rfl rfl) ?_ | refine awps_stp0 rfl rfl (by decide) (stp_load_elpn rfl tf_api_Clause rfl rfl rfl) ?_
      refine awps_stp0 rfl rfl (by decide) (stp_move (.inl rfl) rfl) ?_; refine awps_stp0 rfl rfl (by decide) (stp_move (.inl rfl) rfl) ?_; refine awps_stp0 rfl rfl (by decide) (stp_add rfl rfl rfl (by omega)) ?_; refine awps_stp0 rfl rfl (by decide) (stp_move (.inl rfl) rfl) ?_; refine awps_stp0 rfl rfl (by decide) (stp_move (.inl rfl) rfl) ?_
      refine awps_callP (avs := [_, _, _, _, _]) false rfl rfl rfl (by decide) en_known_seek rfl rfl (hih (fitR 5 l a t).1 _ hfg (by omega)) (rfl) (passO (.cons rfl trivial rfl .nil)) (by rintro r O' ⟨_, rfl⟩; exact frB rfl) (by rintro h; cases h) ?_
      rintro r O' ⟨rfl, rfl⟩
      refine awps_nil ?_; refine inQ_nil ?_; refine thenQ_nil ?_; refine awp_region ?_; refine awps_stp0 rfl rfl (by decide) (stp_add rfl rfl rfl (by omega)) ?_; refine awps_stp0 rfl rfl (by decide) (stp_move (.inl rfl) rfl) ?_; refine awps_nil ?_; refine thenQ_nil ?_; refine ⟨?_, ?_, ?_⟩
      · skip
        omega
      · skip
        omega
      exact sub_re (SubT.cons (lk_eq rfl (by first | rfl | simp)) (SubT.cons (lk_eq rfl (by first | rfl | simp)) (SubT.cons (lk_eq rfl (by first | rfl | simp)) (SubT.cons (lk_eq rfl (by first | rfl | simp)) (SubT.cons (lk_eq rfl (by first | rfl | simp)) (SubT.cons (lk_eq rfl (by first | rfl | simp)) (SubT.cons (lk_eq rfl (by first | rfl | simp)) (SubT.cons (lk_eq rfl (by first | rfl | simp)) (SubT.nil))))))))) (SubO.cons (ok_eq rfl (by first | (rw [hft, addM_app]; done) | (rw [hft, addM_app]; rfl) | (rw [hft, List.append_nil]; done) | (rw [hft, List.append_nil]; rfl))) (SubO.cons (ok_eq rfl (by rfl)) (SubO.cons (ok_eq rfl (by rfl)) (SubO.nil)))) rfl rfl (LOz hL rfl)
    try simp only [↓cqA, cqB] at c3
    rw [if_neg c3] at hft
    refine awp_skip ?_; refine inQ_nil ?_; refine thenQ_nil ?_; refine awp_region ?_; refine awps_stp0 rfl rfl (by decide) (stp_add rfl rfl rfl (by omega)) ?_; refine awps_stp0 rfl rfl (by decide) (stp_move (.inl rfl) rfl) ?_; refine awps_nil ?_; refine thenQ_nil ?_; refine ⟨?_, ?_, ?_⟩
    · skip
      omega
    · skip
      omega
    exact sub_re (SubT.cons (lk_eq rfl (by first | rfl | simp)) (SubT.cons (lk_eq rfl (by first | rfl | simp)) (SubT.cons (lk_eq rfl (by first | rfl | simp)) (SubT.cons (lk_eq rfl (by first | rfl | simp)) (SubT.cons (lk_eq rfl (by first | rfl | simp)) (SubT.cons (lk_eq rfl (by first | rfl | simp)) (SubT.cons (lk_eq rfl (by first | rfl | simp)) (SubT.cons (lk_eq rfl (by first | rfl | simp)) (SubT.nil))))))))) (SubO.cons (ok_eq rfl (by first | (rw [hft, addM_app]; done) | (rw [hft, addM_app]; rfl) | (rw [hft, List.append_nil]; done) | (rw [hft, List.append_nil]; rfl))) (SubO.cons (ok_eq rfl (by rfl)) (SubO.cons (ok_eq rfl (by rfl)) (SubO.nil)))) rfl rfl (LOz hL rfl)
  try simp only [↓cqA, cqB] at c2
  refine awp_exit ?_; refine thenQ_exit (thenQ_exit (inQ_hit ?_))
  -- leaf 0F2F
  change retQ _ _ _ _ _ _ _
  refine retO (O' := [(4, _)]) (by first | exact .inl rfl | exact .inr rfl) resAs_nil (SubO.cons rfl SubO.nil) ?_ ?_ (LO hL rfl) ?_
  · rfl
  · rfl
  exact ⟨rfl, by first | rfl | rw [List.take_of_length_le (by omega)]⟩
theorem seek_ok (q : Cl) (hq : q.wf) (hcb : clauseB q = true) (k : List Tm) (hk : ∀ t ∈ k, AtK t) (hkl : k.length ≤ 1000) : ∀ (n i0 : Nat), i0 + n = q.body.length → ∀ (l : List Bd) (kvs : List (Lit × List D)), FG l → kvs.length + (seekL q.guards q.head k (q.body.drop i0) l).length ≤ 10000000 →
    AC Tryz.prog 194 [clA q, .dat false 4 (tmDs k), iv (i0 : Int), bdA l, .map 4] [(4, fndK kvs)] (fun r O => r = .tup [] ∧ O = [(4, fndK (addM kvs (seekL q.guards q.head k (q.body.drop i0) l)))])
  | 0, i0, h, l, kvs, hl, hB => seek_step q hq hcb k hk hkl i0 (by omega) l hl kvs hB (fun h2 => by omega)
  | n + 1, i0, h, l, kvs, hl, hB => seek_step q hq hcb k hk hkl i0 (by omega) l hl kvs hB (fun _ l' kvs' hl' hB' => seek_ok q hq hcb k hk hkl n (i0 + 1) (by omega) l' kvs' hl' hB')
end Go.Proofs.YtdecgkhdbfgldaaGreat

set_option linter.unusedVariables false
set_option linter.unusedSimpArgs false
namespace Go.Proofs.YtdecgkhdbfgldaaGreat
open Go
theorem u8_inj {a b : Int} (h : u8 a = u8 b) : a % 256 = b % 256 := by
  have := congrArg (fun x : UInt8 => (x.toNat : Int)) h
  simp only [← wrap_u8] at this
  have e : ∀ n : Int, IntKind.u8.wrap n = n % 256 := fun n => by simp [IntKind.wrap, IntKind.signed, IntKind.bits]
  rwa [e, e] at this
theorem kq_range (n : Int) : 0 ≤ kq n ∧ kq n < 4294967296 := by
  have e : ∀ n : Int, IntKind.u32.wrap n = n % 4294967296 := fun n => by simp [IntKind.wrap, IntKind.signed, IntKind.bits]
  rw [kq, e]
  exact ⟨Int.emod_nonneg _ (by decide), Int.emod_lt_of_pos _ (by decide)⟩
theorem kq_inj {a b : Int} (ha : -1073741824 ≤ a ∧ a ≤ 1073741824) (hb : -1073741824 ≤ b ∧ b ≤ 1073741824) (h : kq a = kq b) : a = b := by
  have e : ∀ n : Int, IntKind.u32.wrap n = n % 4294967296 := fun n => by simp [IntKind.wrap, IntKind.signed, IntKind.bits]
  have e2 : ∀ n : Int, -1073741824 ≤ n ∧ n ≤ 1073741824 → IntKind.i32.wrap n = n := fun n hn => by
    simp [IntKind.wrap, IntKind.signed, IntKind.bits]
    split <;> omega
  rw [kq, kq, e, e, e2 a ha, e2 b hb] at h
  omega
theorem flat_inj {α β : Type} {f : α → List β} : ∀ (l m : List α) (r s : List β), l.length = m.length → (∀ a ∈ l, ∀ b ∈ m, ∀ r s, f a ++ r = f b ++ s → a = b ∧ r = s) → (l.map f).flatten ++ r = (m.map f).flatten ++ s → l = m ∧ r = s
  | [], [], r, s, _, _, h => ⟨rfl, by simpa using h⟩
  | a :: l, b :: m, r, s, hl, hf, h => by
    simp only [List.map_cons, List.flatten_cons, List.append_assoc] at h
    obtain ⟨h1, h2⟩ := hf a (by simp) b (by simp) _ _ h
    obtain ⟨h3, h4⟩ := flat_inj l m r s (by simpa using hl) (fun x hx y hy => hf x (by simp [hx]) y (by simp [hy])) h2
    exact ⟨by rw [h1, h3], h4⟩
  | [], _ :: _, _, _, hl, _, _ => by simp at hl
  | _ :: _, [], _, _, hl, _, _ => by simp at hl
theorem shp_n {t : Tm} (h : t.shp) : -1073741824 ≤ t.n ∧ t.n ≤ 1073741824 := by
  rcases ((Tm.shp_iff t).1 h).1 with ⟨_, _, e, _⟩ | ⟨_, e, _⟩ | ⟨_, _, e, _⟩
  · omega
  · simpa [numB] using e
  · omega
theorem shp_k {t : Tm} (h : t.shp) : 1 ≤ t.kind ∧ t.kind ≤ 3 := by
  rcases ((Tm.shp_iff t).1 h).1 with ⟨e, _⟩ | ⟨e, _⟩ | ⟨e, _⟩ <;> omega
theorem shp_al {t : Tm} (h : t.shp) : t.args.length ≤ 4 := by
  rcases ((Tm.shp_iff t).1 h).1 with ⟨_, _, _, e⟩ | ⟨_, _, _, e⟩ | ⟨_, _, _, e⟩
  · rw [e]; simp
  · rw [e]; simp
  · exact e
theorem keyL_inj : ∀ (d : Nat) (a b : Tm), dle d a → dle d b → a.shp → b.shp → ∀ r s : List UInt8, keyL d a ++ r = keyL d b ++ s → a = b ∧ r = s
  | 0, a, _, h, _, _, _ => h.elim
  | d + 1, a, b, da, db, sa, sb => fun r s h => by
    have na := shp_name sa
    have nb := shp_name sb
    have la : a.name.data.toList.length = a.name.size := by simp
    have lb : b.name.data.toList.length = b.name.size := by simp
    have ka := shp_k sa
    have kb := shp_k sb
    have aa := shp_al sa
    have ab := shp_al sb
    rw [keyL, keyL] at h
    simp only [List.append_assoc, List.cons_append, List.nil_append, List.cons.injEq] at h
    obtain ⟨h1, h2, h⟩ := h
    have h1 := u8_inj h1
    have h2 := u8_inj h2
    have hsz : a.name.size = b.name.size := by omega
    obtain ⟨h3, h⟩ := List.append_inj h (by rw [la, lb, hsz])
    simp only [List.cons.injEq] at h
    obtain ⟨q1, q2, q3, q4, q5, h⟩ := h
    have q1 := u8_inj q1
    have q2 := u8_inj q2
    have q3 := u8_inj q3
    have q4 := u8_inj q4
    have q5 := u8_inj q5
    have c24 : min (24 : Int).toNat IntKind.u32.bits = 24 := by decide
    have c16 : min (16 : Int).toNat IntKind.u32.bits = 16 := by decide
    have c8 : min (8 : Int).toNat IntKind.u32.bits = 8 := by decide
    rw [c24] at q1
    rw [c16] at q2
    rw [c8] at q3
    have ra := kq_range a.n
    have rb := kq_range b.n
    have hq : kq a.n = kq b.n := by
      have p24 : (2 : Int) ^ 24 = 16777216 := by decide
      have p16 : (2 : Int) ^ 16 = 65536 := by decide
      have p8 : (2 : Int) ^ 8 = 256 := by decide
      rw [p24] at q1
      rw [p16] at q2
      rw [p8] at q3
      omega
    have hn := kq_inj (shp_n sa) (shp_n sb) hq
    obtain ⟨h4, h5⟩ := flat_inj a.args b.args r s (by omega) (fun x hx y hy => keyL_inj d x y (da x hx) (db y hy) (sa.arg hx) (sb.arg hy)) h
    refine ⟨?_, h5⟩
    have hk : a.kind = b.kind := by omega
    have hnm := bext h3
    cases a; cases b
    simp only at hk hnm hn h4
    rw [hk, hnm, hn, h4]
end Go.Proofs.YtdecgkhdbfgldaaGreat

set_option linter.unusedVariables false
set_option linter.unusedSimpArgs false
set_option maxRecDepth 8000
namespace Go.Proofs.YtdecgkhdbfgldaaGreat
open Go
abbrev sa : ByteArray := ⟨#[97]⟩
def f0 : Ft := ⟨nmT sa [], 1, 2⟩
def l0 : List Kp := [⟨7, f0⟩]
end Go.Proofs.YtdecgkhdbfgldaaGreat

set_option linter.unusedVariables false
set_option linter.unusedSimpArgs false
namespace Go.Proofs.YtdecgkhdbfgldaaGreat
open Go
theorem ordL_cmpL (f g : Tm → Tm → Int) : ∀ (l m : List Tm) (n : Int), l.length = m.length → (∀ u ∈ l, ∀ v ∈ m, f u v = g u v) → ordL g n l m = if n = 0 then cmpL f l m else n
  | [], [], n, _, _ => by
    simp only [ordL, cmpL]; split
    · rename_i h; exact h
    · rfl
  | a :: l, b :: m, n, hl, h => by
    have ih := ordL_cmpL f g l m (g a b) (by simpa using hl) (fun u hu v hv => h u (by simp [hu]) v (by simp [hv]))
    have h0 := h a (by simp) b (by simp)
    simp only [ordL, cmpL]
    split
    · rw [ih, h0]
    · rfl
  | [], _ :: _, _, hl, _ => by simp at hl
  | _ :: _, [], _, hl, _ => by simp at hl
theorem cmpI_self (a : Int) : cmpI a a = 0 := (cmpI_zero a a).2 rfl
theorem cmpS_self (a : ByteArray) : cmpS a a = 0 := (cmpS_zero a a).2 rfl
theorem cmp_ord : ∀ (d : Nat) (a b : Tm), dle d a → a.shp → b.shp → cmpT d a b = ordT d a b
  | 0, a, b, h, _, _ => h.elim
  | d + 1, a, b, h, sa, sb => by
    have ta := ((Tm.shp_iff a).1 sa).1
    have tb := ((Tm.shp_iff b).1 sb).1
    by_cases hk : a.kind = b.kind
    case neg =>
      have h1 : cmpI a.kind b.kind ≠ 0 := fun e => hk ((cmpI_zero _ _).1 e)
      rw [ordT, if_pos hk, cmpT]
      simp [orL, h1]
    have hk' : ¬ a.kind ≠ b.kind := by simpa using hk
    have h1 : cmpI a.kind b.kind = 0 := (cmpI_zero _ _).2 hk
    rcases ta with ⟨k1, _, n1, l1⟩ | ⟨k1, _, n1, l1⟩ | ⟨k1, _, n1, l1⟩
    · rw [ordT, if_neg hk', if_pos k1, cmpT]
      have k2 : b.kind = 1 := by omega
      rcases tb with ⟨_, _, n2, l2⟩ | ⟨e, _⟩ | ⟨e, _⟩
      · rw [n1, n2, l1, l2, h1]
        simp only [orL, cmpI_self, List.length_nil, cmpL]
        by_cases hz : cmpS a.name b.name = 0 <;> simp [hz]
      · omega
      · omega
    · rw [ordT, if_neg hk', if_neg (show ¬ a.kind = 1 by omega), if_pos k1, cmpT]
      rcases tb with ⟨e, _⟩ | ⟨_, _, n2, l2⟩ | ⟨e, _⟩
      · omega
      · have e1 : a.name = b.name := by
          have x1 : a.name = ⟨#[]⟩ := ByteArray.ext (Array.eq_empty_of_size_eq_zero n1)
          have x2 : b.name = ⟨#[]⟩ := ByteArray.ext (Array.eq_empty_of_size_eq_zero n2)
          rw [x1, x2]
        rw [l1, l2, h1, e1]
        simp only [orL, cmpI_self, cmpS_self, List.length_nil, cmpL]
        by_cases hz : cmpI a.n b.n = 0 <;> simp [hz]
      · omega
    · rw [ordT, if_neg hk', if_neg (show ¬ a.kind = 1 by omega), if_neg (show ¬ a.kind = 2 by omega), cmpT]
      rcases tb with ⟨e, _⟩ | ⟨e, _⟩ | ⟨_, _, n2, l2⟩
      · omega
      · omega
      · have ih : ∀ u ∈ a.args, ∀ v ∈ b.args, cmpT d u v = ordT d u v := fun u hu v hv => cmp_ord d u v (h u hu) (sa.arg hu) (sb.arg hv)
        rw [n1, n2, h1]
        by_cases hl : cmpI a.args.length b.args.length = 0
        · have hlen : a.args.length = b.args.length := by have := (cmpI_zero _ _).1 hl; omega
          rw [if_pos hl, ordL_cmpL (cmpT d) (ordT d) a.args b.args _ hlen ih]
          by_cases hn : cmpS a.name b.name = 0
          · simp [orL, cmpI_self, hl, hn]
          · simp [orL, cmpI_self, hl, hn]
        · rw [if_neg hl]
          have : ordL (ordT d) (cmpI a.args.length b.args.length) a.args b.args = cmpI a.args.length b.args.length := by
            cases ha : a.args <;> cases hb : b.args <;> simp only [ordL]
            rw [ha, hb] at hl
            rw [if_neg hl]
          rw [this]
          simp [orL, cmpI_self, hl]
end Go.Proofs.YtdecgkhdbfgldaaGreat

set_option linter.unusedVariables false
set_option linter.unusedSimpArgs false
namespace Go.Proofs.YtdecgkhdbfgldaaGreat
open Go
structure TP {α : Type} (f : α → α → Int) : Prop where
  anti : ∀ a b, f b a = - f a b
  tr : ∀ a b c, f a b ≤ 0 → f b c ≤ 0 → f a c ≤ 0
section
variable {α : Type} {f g : α → α → Int}
theorem TP.self (h : TP f) (a : α) : f a a = 0 := by have := h.anti a a; omega
theorem TP.lt1 (h : TP f) {a b c : α} (h1 : f a b < 0) (h2 : f b c ≤ 0) : f a c < 0 := by
  have h3 := h.tr a b c (by omega) h2
  by_cases e : f a c = 0
  · have h4 : f c a ≤ 0 := by rw [h.anti a c]; omega
    have h5 := h.tr b c a h2 h4
    have := h.anti a b; omega
  · omega
theorem TP.lt2 (h : TP f) {a b c : α} (h1 : f a b ≤ 0) (h2 : f b c < 0) : f a c < 0 := by
  have h3 := h.tr a b c h1 (by omega)
  by_cases e : f a c = 0
  · have h4 : f c a ≤ 0 := by rw [h.anti a c]; omega
    have h5 := h.tr c a b h4 h1
    have := h.anti b c; omega
  · omega
theorem TP.eq (h : TP f) {a b c : α} (h1 : f a b = 0) (h2 : f b c = 0) : f a c = 0 := by
  have h3 := h.tr a b c (by omega) (by omega)
  have h4 := h.tr c b a (by rw [h.anti b c]; omega) (by rw [h.anti a b]; omega)
  have := h.anti a c; omega
theorem TP.lex (hf : TP f) (hg : TP g) : TP (fun a b => if f a b = 0 then g a b else f a b) := by
  refine ⟨fun a b => ?_, fun a b c h1 h2 => ?_⟩
  · have ha := hf.anti a b
    show (if f b a = 0 then g b a else f b a) = - (if f a b = 0 then g a b else f a b)
    by_cases e : f a b = 0
    · rw [if_pos e, if_pos (by omega)]; exact hg.anti a b
    · rw [if_neg e, if_neg (by omega)]; exact ha
  · replace h1 : (if f a b = 0 then g a b else f a b) ≤ 0 := h1
    replace h2 : (if f b c = 0 then g b c else f b c) ≤ 0 := h2
    show (if f a c = 0 then g a c else f a c) ≤ 0
    by_cases e1 : f a b = 0
    · rw [if_pos e1] at h1
      by_cases e2 : f b c = 0
      · rw [if_pos e2] at h2
        rw [if_pos (hf.eq e1 e2)]
        exact hg.tr a b c h1 h2
      · rw [if_neg e2] at h2
        have := hf.lt2 (a := a) (b := b) (c := c) (by omega) (by omega)
        rw [if_neg (by omega)]; omega
    · rw [if_neg e1] at h1
      have h2' : f b c ≤ 0 := by
        by_cases e2 : f b c = 0
        · omega
        · rw [if_neg e2] at h2; exact h2
      have := hf.lt1 (a := a) (b := b) (c := c) (by omega) h2'
      rw [if_neg (by omega)]; omega
theorem TP.zero : TP (fun _ _ : α => 0) := ⟨fun _ _ => rfl, fun _ _ _ _ _ => Int.le_refl _⟩
theorem TP.map {β : Type} (h : TP f) (m : β → α) : TP (fun a b => f (m a) (m b)) := ⟨fun _ _ => h.anti _ _, fun _ _ _ h1 h2 => h.tr _ _ _ h1 h2⟩
end
theorem TP.int : TP cmpI := by
  refine ⟨fun a b => ?_, fun a b c h1 h2 => ?_⟩
  · simp only [cmpI]; split <;> (try split) <;> (try split) <;> omega
  · simp only [cmpI] at h1 h2 ⊢
    split at h1 <;> split at h2 <;> (try split at h1) <;> (try split at h2) <;> (try split) <;> (try split) <;> omega
theorem cb_anti : ∀ a b : List UInt8, Lib.compareBytes b a = - Lib.compareBytes a b
  | [], [] => rfl
  | [], _ :: _ => rfl
  | _ :: _, [] => rfl
  | x :: a, y :: b => by
    have ih := cb_anti a b
    simp only [Lib.compareBytes, UInt8.lt_iff_toNat_lt]
    by_cases h1 : x.toNat < y.toNat
    · rw [if_neg (show ¬ y.toNat < x.toNat by omega), if_pos h1, if_pos h1]; rfl
    · by_cases h2 : y.toNat < x.toNat
      · rw [if_pos h2, if_neg h1, if_pos h2]
      · rw [if_neg h2, if_neg h1, if_neg h1, if_neg h2]; exact ih
theorem cb_tr : ∀ a b c : List UInt8, Lib.compareBytes a b ≤ 0 → Lib.compareBytes b c ≤ 0 → Lib.compareBytes a c ≤ 0
  | [], [], [], _, _ => by simp [Lib.compareBytes]
  | [], _, _ :: _, _, _ => by simp [Lib.compareBytes]
  | [], _ :: _, [], _, h => by simp [Lib.compareBytes]
  | _ :: _, [], _, h, _ => by simp [Lib.compareBytes] at h
  | _ :: _, _ :: _, [], _, h => by simp [Lib.compareBytes] at h
  | x :: a, y :: b, z :: c, h1, h2 => by
    have ih := cb_tr a b c
    simp only [Lib.compareBytes, UInt8.lt_iff_toNat_lt] at h1 h2 ⊢
    by_cases h3 : x.toNat < z.toNat
    · rw [if_pos h3]; decide
    · rw [if_neg h3]
      have e1 : ¬ y.toNat < x.toNat := fun h => by
        rw [if_neg (by omega), if_pos h] at h1; exact absurd h1 (by decide)
      have e2 : ¬ z.toNat < y.toNat := fun h => by
        rw [if_neg (by omega), if_pos h] at h2; exact absurd h2 (by decide)
      rw [if_neg (by omega)]
      rw [if_neg (by omega), if_neg e1] at h1
      rw [if_neg (by omega), if_neg e2] at h2
      exact ih h1 h2
theorem TP.str : TP cmpS := ⟨fun a b => cb_anti _ _, fun a b c h1 h2 => cb_tr _ _ _ h1 h2⟩
theorem cmpL_anti {f : Tm → Tm → Int} (h : TP f) : ∀ l m : List Tm, cmpL f m l = - cmpL f l m
  | [], [] => rfl
  | [], _ :: _ => rfl
  | _ :: _, [] => rfl
  | a :: l, b :: m => by
    have ih := cmpL_anti h l m
    have := h.anti a b
    simp only [cmpL]
    by_cases e : f a b = 0
    · rw [if_pos e, if_pos (by omega)]; exact ih
    · rw [if_neg e, if_neg (by omega)]; exact this
theorem cmpL_tr {f : Tm → Tm → Int} (h : TP f) : ∀ l m n : List Tm, cmpL f l m ≤ 0 → cmpL f m n ≤ 0 → cmpL f l n ≤ 0
  | [], [], [], _, _ => by simp [cmpL]
  | [], _, _ :: _, _, _ => by simp [cmpL]
  | [], _ :: _, [], _, h => by simp [cmpL]
  | _ :: _, [], _, h, _ => by simp [cmpL] at h
  | _ :: _, _ :: _, [], _, h => by simp [cmpL] at h
  | a :: l, b :: m, c :: n, h1, h2 => by
    have ih := cmpL_tr h l m n
    simp only [cmpL] at h1 h2 ⊢
    by_cases e1 : f a b = 0
    · rw [if_pos e1] at h1
      by_cases e2 : f b c = 0
      · rw [if_pos e2] at h2
        rw [if_pos (h.eq e1 e2)]
        exact ih h1 h2
      · rw [if_neg e2] at h2
        have := h.lt2 (a := a) (b := b) (c := c) (by omega) (by omega)
        rw [if_neg (by omega)]; omega
    · rw [if_neg e1] at h1
      have h2' : f b c ≤ 0 := by
        by_cases e2 : f b c = 0
        · omega
        · rw [if_neg e2] at h2; exact h2
      have := h.lt1 (a := a) (b := b) (c := c) (by omega) h2'
      rw [if_neg (by omega)]; omega
theorem TP.list {f : Tm → Tm → Int} (h : TP f) : TP (cmpL f) := ⟨cmpL_anti h, cmpL_tr h⟩
theorem TP.tm : ∀ d : Nat, TP (cmpT d)
  | 0 => by
    have : cmpT 0 = fun _ _ => 0 := by funext a b; rfl
    rw [this]; exact TP.zero
  | d + 1 => by
    have h1 : TP (fun a b : Tm => orL [cmpI a.kind b.kind, cmpI a.n b.n, cmpI a.args.length b.args.length, cmpS a.name b.name]) :=
      (TP.int.map Tm.kind).lex ((TP.int.map Tm.n).lex ((TP.int.map (fun a : Tm => (a.args.length : Int))).lex ((TP.str.map Tm.name).lex TP.zero)))
    have h2 : TP (fun a b : Tm => cmpL (cmpT d) a.args b.args) := (TP.list (TP.tm d)).map Tm.args
    exact h1.lex h2
end Go.Proofs.YtdecgkhdbfgldaaGreat

set_option linter.unusedVariables false
set_option linter.unusedSimpArgs false
namespace Go.Proofs.YtdecgkhdbfgldaaGreat
open Go
def insT (t : Tm) : List Tm → List Tm
  | [] => [t]
  | a :: l => if cmpT 5 a t < 0 then a :: insT t l else if cmpT 5 a t = 0 then a :: l else t :: a :: l
def srtU (l : List Tm) : List Tm := l.foldl (fun acc t => insT t acc) []
theorem cmpT_eq {a b : Tm} (h : dle 5 a) : cmpT 5 a b = 0 ↔ a = b := by rw [cmpT_zero 5 a b h, eqT_iff 5 a b h]
theorem mem_insT {t x : Tm} : ∀ {l : List Tm}, (∀ a ∈ l, dle 5 a) → (x ∈ insT t l ↔ x = t ∨ x ∈ l)
  | [], _ => by simp [insT]
  | a :: l, h => by
    have ih := mem_insT (t := t) (x := x) (l := l) (fun b hb => h b (by simp [hb]))
    rw [insT]
    split
    · rw [List.mem_cons, ih, List.mem_cons]
      constructor
      · rintro (h | h | h)
        · exact .inr (.inl h)
        · exact .inl h
        · exact .inr (.inr h)
      · rintro (h | h | h)
        · exact .inr (.inl h)
        · exact .inl h
        · exact .inr (.inr h)
    · split
      · rename_i h2
        have e := (cmpT_eq (h a (by simp))).1 h2
        subst e
        simp
      · simp
def SS (l : List Tm) : Prop := l.Pairwise fun a b => cmpT 5 a b < 0
theorem insT_ss {t : Tm} : ∀ {l : List Tm}, (∀ a ∈ l, dle 5 a) → SS l → SS (insT t l)
  | [], _, _ => by simp [insT, SS]
  | a :: l, h, hs => by
    have h0 := (List.pairwise_cons.1 hs).1
    have ih := insT_ss (t := t) (l := l) (fun b hb => h b (by simp [hb])) (List.pairwise_cons.1 hs).2
    rw [insT]
    split
    · rename_i h1
      refine List.pairwise_cons.2 ⟨fun y hy => ?_, ih⟩
      rcases (mem_insT (fun b hb => h b (by simp [hb]))).1 hy with rfl | hy
      · exact h1
      · exact h0 y hy
    · rename_i h1
      split
      · exact hs
      · rename_i h2
        have h3 := (TP.tm 5).anti a t
        refine List.pairwise_cons.2 ⟨fun y hy => ?_, hs⟩
        rcases List.mem_cons.1 hy with rfl | hy
        · omega
        · exact (TP.tm 5).lt1 (a := t) (b := a) (c := y) (by omega) (by have := h0 y hy; omega)
theorem srtU_spec : ∀ (l acc : List Tm), (∀ a ∈ acc ++ l, dle 5 a) → SS acc → SS (l.foldl (fun acc t => insT t acc) acc) ∧ ∀ x, x ∈ l.foldl (fun acc t => insT t acc) acc ↔ x ∈ acc ∨ x ∈ l
  | [], acc, _, h => ⟨h, fun x => by simp⟩
  | t :: l, acc, hd, h => by
    have hd1 : ∀ a ∈ acc, dle 5 a := fun a ha => hd a (by simp [ha])
    obtain ⟨h1, h2⟩ := srtU_spec l (insT t acc) (fun a ha => by
      rcases List.mem_append.1 ha with ha | ha
      · rcases (mem_insT hd1).1 ha with rfl | ha
        · exact hd a (by simp)
        · exact hd1 a ha
      · exact hd a (by simp [ha])) (insT_ss hd1 h)
    refine ⟨h1, fun x => ?_⟩
    rw [List.foldl_cons, h2, mem_insT hd1, List.mem_cons]
    constructor
    · rintro ((h | h) | h)
      · exact .inr (.inl h)
      · exact .inl h
      · exact .inr (.inr h)
    · rintro (h | h | h)
      · exact .inl (.inr h)
      · exact .inl (.inl h)
      · exact .inr h
theorem srtU_ss {l : List Tm} (h : ∀ a ∈ l, dle 5 a) : SS (srtU l) := (srtU_spec l [] (by simpa using h) List.Pairwise.nil).1
theorem srtU_mem {l : List Tm} (h : ∀ a ∈ l, dle 5 a) {x : Tm} : x ∈ srtU l ↔ x ∈ l := by
  have := (srtU_spec l [] (by simpa using h) List.Pairwise.nil).2 x
  simpa [srtU] using this
theorem SS.nodup {l : List Tm} (h : SS l) : l.Nodup := h.imp fun {a b} h e => by
  subst e; rw [(TP.tm 5).self a] at h; omega
theorem SS.uniq {l m : List Tm} (hl : SS l) (hm : SS m) (h : ∀ x, x ∈ l ↔ x ∈ m) : l = m := by
  refine List.Perm.eq_of_pairwise (le := fun a b => cmpT 5 a b < 0) (fun a b ha hb h1 h2 => ?_) hl hm ((List.perm_ext_iff_of_nodup hl.nodup hm.nodup).2 h)
  have := (TP.tm 5).anti a b; omega
theorem perm_ss {l m : List Tm} (hd : ∀ a ∈ l, dle 5 a) (hn : l.Nodup) (hp : m.Perm l) (hs : m.Pairwise fun x y => ¬ cmpT 5 y x < 0) : m = srtU l := by
  refine SS.uniq ?_ (srtU_ss hd) (fun x => by rw [srtU_mem hd, hp.mem_iff])
  have hn2 : m.Nodup := hp.nodup_iff.2 hn
  rw [SS, List.pairwise_iff_getElem]
  intro i j hi hj hij
  have h1 := List.pairwise_iff_getElem.1 hs i j hi hj hij
  have h2 := List.pairwise_iff_getElem.1 hn2 i j hi hj hij
  have h3 := (TP.tm 5).anti m[i] m[j]
  have h4 : cmpT 5 m[i] m[j] ≠ 0 := fun e => h2 ((cmpT_eq (hd _ (hp.mem_iff.1 (List.getElem_mem hi)))).1 e)
  omega
def memK (k : List Tm) (t : Tm) : Bool := k.any fun u => decide (cmpT 5 u t = 0)
theorem memK_iff {k : List Tm} (h : ∀ a ∈ k, dle 5 a) {t : Tm} : memK k t = true ↔ t ∈ k := by
  simp only [memK, List.any_eq_true, decide_eq_true_eq]
  constructor
  · rintro ⟨u, hu, e⟩; rw [← (cmpT_eq (h u hu)).1 e]; exact hu
  · intro hk; exact ⟨t, hk, (TP.tm 5).self t⟩
def derL (cs : List Cl) (k : List Tm) : List Tm := cs.flatMap fun c => seekL c.guards c.head k c.body []
def newL (cs : List Cl) (k : List Tm) : List Tm := (derL cs k).filter fun t => !memK k t
def nextL (cs : List Cl) (k : List Tm) : List Tm := srtU (newL cs k)
theorem seekL_atk {q : Cl} (hq : q.wf) (hc : clauseE q = 0) {k : List Tm} (hk : ∀ t ∈ k, AtK t) : ∀ (n i0 : Nat), i0 + n = q.body.length → ∀ l : List Bd, FG l → (∀ j a, j < i0 → q.body[j]? = some a → ∀ y, a.occ y → hasB l y = true) → ∀ t ∈ seekL q.guards q.head k (q.body.drop i0) l, AtK t := by
  have hcb : clauseB q = true := by
    cases h : clauseB q with
    | true => rfl
    | false => rw [clauseE, if_pos h] at hc; cases hc
  have hsafe : hasN (bodyN q.body) [q.head] = true := by
    rw [clauseE, if_neg (by simp [hcb])] at hc
    split at hc
    · rename_i h; simp only [Bool.and_eq_true] at h; exact h.1
    · cases hc
  obtain ⟨hh, ⟨hbl, hbw⟩, hgl, hgw⟩ := id hq
  have hcb2 := hcb
  simp only [clauseB, atomB, Bool.and_eq_true, decide_eq_true_eq, List.all_eq_true] at hcb2
  obtain ⟨⟨⟨⟨⟨hhm, hhf⟩, hb3⟩, hg4⟩, hba⟩, hga⟩ := hcb2
  have hocc : ∀ y, q.head.occ y → ∃ a ∈ q.body, a.occ y := fun y hy => by
    simp only [hasN, List.all_eq_true] at hsafe
    have h1 := hsafe y ((noteL5 (fun t ht => by rw [List.mem_singleton.1 ht]; exact may_dle hhm) y).2 ⟨q.head, by simp, hy⟩)
    have h2 := inS_iff.1 h1
    exact (noteL5 (fun t ht => may_dle (hba t ht).1) y).1 h2
  intro n
  induction n with
  | zero =>
    intro i0 hi l hl hb t ht
    rw [List.drop_eq_nil_of_le (by omega), seekL] at ht
    split at ht
    · rw [List.mem_singleton.1 ht]
      refine head_atk hl hhm hh hhf fun y hy => ?_
      obtain ⟨a, ha, hay⟩ := hocc y hy
      obtain ⟨j, hj⟩ := List.getElem?_of_mem ha
      exact hb j a (by have := (List.getElem?_eq_some_iff.1 hj).1; omega) hj y hay
    · cases ht
  | succ n ih =>
    intro i0 hi l hl hb t ht
    obtain ⟨a, ha⟩ := get_of_lt (l := q.body) (k := i0) (by omega)
    have ham := List.mem_of_getElem? ha
    obtain ⟨ha1, ha2⟩ := hba a ham
    obtain ⟨h1, h2⟩ := List.getElem?_eq_some_iff.1 ha
    rw [List.drop_eq_getElem_cons h1, h2, seekL] at ht
    obtain ⟨u, hu, ht⟩ := List.mem_flatMap.1 ht
    split at ht
    · rename_i h0
      obtain ⟨f1, f2, _⟩ := fit_leaf hl ha1 (Tm.wfs_mem hbw ham) ha2 (hk u hu) h0
      refine ih (i0 + 1) (by omega) _ f1 (fun j b hj hjb y hy => (f2 y).2 ?_) t ht
      by_cases hji : j < i0
      · exact .inl (hb j b hji hjb y hy)
      · rw [show j = i0 by omega, ha] at hjb; cases hjb; exact .inr hy
    · cases ht
theorem derL_atk {cs : List Cl} (hw : ∀ c ∈ cs, c.wf) (hc : ∀ c ∈ cs, clauseE c = 0) {k : List Tm} (hk : ∀ t ∈ k, AtK t) : ∀ t ∈ derL cs k, AtK t := fun t ht => by
  obtain ⟨c, hcm, ht⟩ := List.mem_flatMap.1 ht
  exact seekL_atk (hw c hcm) (hc c hcm) hk c.body.length 0 (by omega) [] FG_nil (fun j a hj => by omega) t (by simpa using ht)
theorem nextL_atk {cs : List Cl} (hw : ∀ c ∈ cs, c.wf) (hc : ∀ c ∈ cs, clauseE c = 0) {k : List Tm} (hk : ∀ t ∈ k, AtK t) : ∀ t ∈ nextL cs k, AtK t := fun t ht => by
  have hd : ∀ a ∈ newL cs k, dle 5 a := fun a ha => may_dle (derL_atk hw hc hk a (List.mem_filter.1 ha).1).may
  exact derL_atk hw hc hk t (List.mem_filter.1 ((srtU_mem hd).1 ht)).1
end Go.Proofs.YtdecgkhdbfgldaaGreat

namespace Go.Proofs
open Go.Shelf
def Tryz.srtT_ren : Go.Shelf.Ren := ⟨fun | 6 => 134 | 15 => 182 | 14 => 196 | 28 => 233 | 29 => 234 | 20 => 242 | 21 => 243 | 22 => 244 | 23 => 245 | 24 => 246 | 25 => 247 | 26 => 248 | 27 => 249 | 46 => 270 | 47 => 263 | 48 => 264 | 49 => 271 | 50 => 272 | 57 => 286 | n => n, fun | 22 => 23 | 24 => 35 | 25 => 157 | 3 => 3 | 39 => 159 | 0 => 0 | 53 => 235 | 55 => 237 | 4 => 4 | 46 => 229 | 45 => 228 | 50 => 127 | 5 => 5 | 9 => 9 | 66 => 256 | 70 => 168 | 76 => 272 | 77 => 273 | n => n, fun | n => n⟩
theorem Tryz.srtT : Go.Proofs.SlLaysF0.n6 Tryz.prog Tryz.srtT_ren := {
  mixed := by kernel_rfl
  f6 := ⟨Tryz.f134.name, by decide, Tryz.func134.trans (congrArg some (by kernel_rfl))⟩
  f14 := ⟨Tryz.f196.name, by decide, Tryz.func196.trans (congrArg some (by kernel_rfl))⟩
  f15 := Tryz.func182.trans (congrArg some (by kernel_rfl))
  f20 := ⟨Tryz.f242.name, by decide, Tryz.func242.trans (congrArg some (by kernel_rfl))⟩
  f21 := ⟨Tryz.f243.name, by decide, Tryz.func243.trans (congrArg some (by kernel_rfl))⟩
  f22 := ⟨Tryz.f244.name, by decide, Tryz.func244.trans (congrArg some (by kernel_rfl))⟩
  f23 := ⟨Tryz.f245.name, by decide, Tryz.func245.trans (congrArg some (by kernel_rfl))⟩
  f24 := ⟨Tryz.f246.name, by decide, Tryz.func246.trans (congrArg some (by kernel_rfl))⟩
  f25 := ⟨Tryz.f247.name, by decide, Tryz.func247.trans (congrArg some (by kernel_rfl))⟩
  f26 := ⟨Tryz.f248.name, by decide, Tryz.func248.trans (congrArg some (by kernel_rfl))⟩
  f27 := ⟨Tryz.f249.name, by decide, Tryz.func249.trans (congrArg some (by kernel_rfl))⟩
  f28 := Tryz.func233.trans (congrArg some (by kernel_rfl))
  f29 := Tryz.func234.trans (congrArg some (by kernel_rfl))
  f46 := ⟨Tryz.f270.name, by decide, Tryz.func270.trans (congrArg some (by kernel_rfl))⟩
  f47 := Tryz.func263.trans (congrArg some (by kernel_rfl))
  f48 := Tryz.func264.trans (congrArg some (by kernel_rfl))
  f49 := ⟨Tryz.f271.name, by decide, Tryz.func271.trans (congrArg some (by kernel_rfl))⟩
  f50 := ⟨Tryz.f272.name, by decide, Tryz.func272.trans (congrArg some (by kernel_rfl))⟩
  f57 := ⟨Tryz.f286.name, by decide, Tryz.func286.trans (congrArg some (by kernel_rfl))⟩
  t0 := Tryz.underlying0
  a0 := Tryz.isAgg0
  z0 := Tryz.sizeOf0
  v0 := Tryz.zeroValue0
  t3 := Tryz.underlying3
  a3 := Tryz.isAgg3
  z3 := Tryz.sizeOf3
  v3 := Tryz.zeroValue3
  t4 := Tryz.underlying4
  a4 := Tryz.isAgg4
  z4 := Tryz.sizeOf4
  v4 := Tryz.zeroValue4
  t5 := Tryz.underlying5
  a5 := Tryz.isAgg5
  z5 := Tryz.sizeOf5
  v5 := Tryz.zeroValue5
  t9 := Tryz.underlying9
  a9 := Tryz.isAgg9
  z9 := Tryz.sizeOf9
  v9 := Tryz.zeroValue9
  t22 := Tryz.underlying23
  a22 := Tryz.isAgg23
  z22 := Tryz.sizeOf23
  v22 := Tryz.zeroValue23
  t25 := Tryz.underlying157
  a25 := Tryz.isAgg157
  z25 := Tryz.sizeOf157
  v25 := Tryz.zeroValue157
  t39 := Tryz.underlying159
  a39 := Tryz.isAgg159
  z39 := Tryz.sizeOf159
  v39 := Tryz.zeroValue159
  t45 := Tryz.underlying228
  a45 := Tryz.isAgg228
  z45 := Tryz.sizeOf228
  v45 := Tryz.zeroValue228
  t46 := Tryz.underlying229
  a46 := Tryz.isAgg229
  z46 := Tryz.sizeOf229
  v46 := Tryz.zeroValue229
  t50 := Tryz.underlying127
  a50 := Tryz.isAgg127
  z50 := Tryz.sizeOf127
  v50 := Tryz.zeroValue127
  t53 := Tryz.underlying235
  a53 := Tryz.isAgg235
  z53 := Tryz.sizeOf235
  v53 := Tryz.zeroValue235
  t55 := Tryz.underlying237
  a55 := Tryz.isAgg237
  z55 := Tryz.sizeOf237
  v55 := Tryz.zeroValue237
  t66 := Tryz.underlying256
  a66 := Tryz.isAgg256
  z66 := Tryz.sizeOf256
  v66 := Tryz.zeroValue256
  t70 := Tryz.underlying168
  a70 := Tryz.isAgg168
  z70 := Tryz.sizeOf168
  v70 := Tryz.zeroValue168
  t76 := Tryz.underlying272
  a76 := Tryz.isAgg272
  z76 := Tryz.sizeOf272
  v76 := Tryz.zeroValue272
  t77 := Tryz.underlying273
  a77 := Tryz.isAgg273
  z77 := Tryz.sizeOf273
  v77 := Tryz.zeroValue273 }
end Go.Proofs
