/- Part 11 of the proof: Gv, Gw, Gx, Jd, Gy, Gz, Ja. -/
import Derived.Test.YtdecgkhdbfgldaaGreatE10
import Derived.Laws.StructEq
set_option linter.unusedVariables false
set_option linter.unusedSimpArgs false
set_option maxRecDepth 8000
namespace Go.Proofs.YtdecgkhdbfgldaaGreat
open Go
def wK (k : Kp) : Int := wT k.f.t
def wKs (l : List Kp) : Int := wgtL wK l.length l
theorem KeptsWeight_ok (l : List Kp) (hl : lenOk l) (hw : ∀ k ∈ l, k.wf) : PF 114 [.dat false 7 (kpDs l)] (iv (wKs l)) := by
  have hlen := kpDs_length l
  have hF : ∀ u, u ∈ l → 0 ≤ wK u ∧ wK u ≤ 4362862138900000 := fun u hu => wT_range u.f.t (hw u hu).2.1
  simp only [lenOk] at hl
  refine AC_intro Tryz.func114 rfl Tryz.ntmps114 (Nat.le_of_ble_eq_true rfl) fun c hL hQ hDD => ?_; refine awp_seq ?_; refine awp_region ?_; refine awps_stp0 rfl rfl (by decide) (stp_move (.inr rfl) rfl) ?_; refine awps_nil ?_; refine thenQ_nil ?_; refine awp_seq ?_; refine awp_region ?_; refine awps_stp0 rfl rfl (by decide) (stp_move (.inl rfl) rfl) ?_; refine awps_stp0 rfl rfl (by decide) (stp_len_dat rfl sl_S_api_Kept rfl) ?_
  refine awps_stp0 rfl rfl (by decide) (stp_move (.inr rfl) rfl) ?_; refine awps_nil ?_; refine thenQ_nil ?_; refine awp_seq ?_; refine awp_seq ?_; refine awp_region ?_; refine awps_stp0 rfl rfl (by decide) (stp_move (.inr rfl) rfl) ?_; refine awps_nil ?_; refine thenQ_nil ?_; refine awp_block ?_; refine awp_while (l.length) (fun k => k ≤ l.length ∧ ∀ j, j < k → wgtL wK l.length (l.take j) < 1048576) (fun k => ⟨[(0, .dat false 7 (kpDs l)), (3, iv (wgtL wK l.length (l.take k))), (4, iv (k : Int))], []⟩) (⟨by omega, fun j hj => absurd hj (by omega)⟩) ?_ (fun k hk hp => ?_)
  · exact sub_re (SubT.cons (lk_eq rfl (by first | rfl | simp)) (SubT.cons (lk_eq rfl (by exact int_imm (by simp only [List.take_zero, wgtL]; omega))) (SubT.cons (lk_eq rfl (by first | rfl | simp)) (SubT.nil)))) (SubO.nil) rfl rfl (noL' (noL hL) _)
  have hwk := wgtL_le wK 4362862138900000 (by omega) l.length (l.take k) (fun u hu => (hF u (List.mem_of_mem_take hu)).2) (by omega)
  have hw0 := wgtL_ge' wK l.length (l.take k) (fun u hu => (hF u (List.mem_of_mem_take hu)).1)
  refine awp_seq ?_; refine awp_seq ?_; refine awp_region ?_; refine awps_stp0 rfl rfl (by decide) (stp_move (.inl rfl) rfl) ?_; refine awps_stp0 rfl rfl (by decide) (stp_move (.inl rfl) rfl) ?_; refine awps_stp0 rfl rfl (by decide) (stp_len_dat rfl sl_S_api_Kept rfl) ?_; refine awps_stp0 rfl rfl (by decide) (stp_binI rfl rfl rfl rfl) ?_; refine awps_stp0 rfl rfl (by decide) (stp_move (.inl rfl) rfl) ?_; refine awps_split 11 rfl (fun g11 => ?_) (fun g11 => ?_)
  · try simp only [↓cqA, cqB] at g11
    obtain ⟨u, hu⟩ := get_of_lt (l := l) (k := k) (by omega)
    have hum := List.mem_of_getElem? hu
    have huw := hF u hum
    have hws : wK u = wT u.f.t := rfl
    have hut := (hw u hum).2.1
    refine awps_g0 rfl rfl rfl (by decide) rfl (by decide) (stp_move (.inl rfl) rfl) ?_; refine awps_g0 rfl rfl rfl (by decide) rfl (by decide) (stp_binI rfl rfl rfl rfl) ?_; refine awps_stp0 rfl rfl (by decide) (stp_pick rfl rfl rfl) ?_; refine awps_nil ?_; refine thenQ_nil ?_; refine awp_cond rfl (fun c0 => ?_) (fun c0 => ?_)
    · try simp only [↓cqA, cqB] at c0
      refine awp_skip ?_; refine thenQ_nil ?_; refine awp_seq ?_; refine awp_block ?_; refine awp_region ?_; refine awps_stp0 rfl rfl (by decide) (stp_move (.inl rfl) rfl) ?_; refine awps_stp0 rfl rfl (by decide) (stp_move (.inl rfl) rfl) ?_; refine awps_stp0 rfl rfl (by decide) (stp_move (.inl rfl) rfl) ?_; refine awps_stp0 rfl rfl (by decide) (stp_indexAddr rfl sl_S_api_Kept rfl rfl (by omega) (kpDs_get hu)) ?_; refine awps_stp0 rfl rfl (by decide) (stp_fieldAddr_elp rfl fo_api_Kept_1 rfl) ?_; refine awps_stp0 rfl rfl (by decide) (stp_fieldAddr_elp rfl fo_api_Fact_0 rfl) ?_
      refine awps_stp0 rfl rfl (by decide) (stp_load_elpn rfl tf_api_Term rfl rfl rfl) ?_; refine awps_call (avs := [_, _]) true rfl rfl rfl (by decide) en_almagestlaw0_TermWeight rfl rfl (TermWeight30_ok u.f.t hut) rfl rfl ?_; refine awps_stp0 rfl rfl (by decide) (stp_add rfl rfl rfl (by omega)) ?_; refine awps_stp0 rfl rfl (by decide) (stp_move (.inr rfl) rfl) ?_; refine awps_nil ?_; refine inQ_nil ?_; refine thenQ_nil ?_; refine awp_region ?_
      refine awps_stp0 rfl rfl (by decide) (stp_move (.inl rfl) rfl) ?_; refine awps_stp0 rfl rfl (by decide) (stp_add rfl rfl rfl (by omega)) ?_; refine awps_stp0 rfl rfl (by decide) (stp_move (.inr rfl) rfl) ?_; refine awps_nil ?_
      have hb := wgtL_snoc wK l.length (l.take k) u (fun j hj => by
        by_cases hjk : j < k
        · have := hp.2 j hjk; rwa [List.take_take, Nat.min_eq_left (by omega)]
        · rw [List.take_of_length_le (by simp; omega)]; omega)
      rw [← take_snoc hu] at hb
      refine thenQ_nil ?_; refine ⟨?_, ?_, ?_⟩
      · skip
        omega
      · skip
        refine ⟨by omega, fun j hj => ?_⟩
        by_cases hjk : j < k
        · exact hp.2 j hjk
        · rw [show j = k by omega]; omega
      exact sub_re (SubT.cons (lk_eq rfl (by first | rfl | simp)) (SubT.cons (lk_eq rfl (by exact int_imm (by rw [hb]; try omega))) (SubT.cons (lk_eq rfl (by first | rfl | simp)) (SubT.nil)))) (SubO.nil) rfl rfl (noL' (noL hL) _)
    try simp only [↓cqA, cqB] at c0
    have hfin : wgtL wK l.length (l.take k) = wgtL wK l.length l := ((wgtL_take wK _ _ k hp.1 hp.2).trans (wgtL_stop _ _ _ (by omega))).symm
    refine awp_exit ?_; refine thenQ_exit (thenQ_exit (inQ_hit ?_)); refine thenQ_nil ?_; refine awp_seq ?_; refine awp_region ?_; refine awps_stp0 rfl rfl (by decide) (stp_move (.inl rfl) rfl) ?_; refine awps_stp0 rfl rfl (by decide) (stp_move (.inr rfl) rfl) ?_; refine awps_nil ?_; refine thenQ_nil ?_; refine awp_ret ?_
    -- leaf g11T0F
    refine ret0 (noL hL) (.inl rfl) (resAs_tmp rfl (resAs_nil)) ?_ ?_
    · rfl
    exact ⟨int_w hfin, rfl⟩
  try simp only [↓cqA, cqB] at g11
  have hfin : wgtL wK l.length (l.take k) = wgtL wK l.length l := by rw [List.take_of_length_le (by omega)]
  refine awps_gs rfl rfl rfl rfl (by decide) rfl (by decide) ?_; refine awps_gs rfl rfl rfl rfl (by decide) rfl (by decide) ?_; refine awps_stp0 rfl rfl (by decide) (stp_pick rfl rfl rfl) ?_; refine awps_nil ?_; refine thenQ_nil ?_; refine awp_condF rfl ?_; refine awp_exit ?_; refine thenQ_exit (thenQ_exit (inQ_hit ?_)); refine thenQ_nil ?_; refine awp_seq ?_; refine awp_region ?_; refine awps_stp0 rfl rfl (by decide) (stp_move (.inl rfl) rfl) ?_; refine awps_stp0 rfl rfl (by decide) (stp_move (.inr rfl) rfl) ?_; refine awps_nil ?_; refine thenQ_nil ?_; refine awp_ret ?_
  -- leaf g11F
  refine ret0 (noL hL) (.inl rfl) (resAs_tmp rfl (resAs_nil)) ?_ ?_
  · rfl
  exact ⟨int_w hfin, rfl⟩
theorem wKs_range (l : List Kp) (hl : lenOk l) (hw : ∀ k ∈ l, k.wf) : 0 ≤ wKs l ∧ wKs l ≤ 4600000000000000 := by
  have hF : ∀ u, u ∈ l → 0 ≤ wK u ∧ wK u ≤ 4362862138900000 := fun u hu => wT_range u.f.t (hw u hu).2.1
  have h1 := wgtL_le wK 4362862138900000 (by omega) l.length l (fun u hu => (hF u hu).2) (by simp only [lenOk] at hl; omega)
  have h2 := wgtL_ge' wK l.length l (fun u hu => (hF u hu).1)
  simp only [wKs]; omega
def wF (f : Ft) : Int := wT f.t
def heavy9 (p : Ask9) : Bool := decide (2500 < wgtL wF (wKs p.L + p.F.length + p.N.length) p.F)
theorem Heavy9_ok (p : Ask9) (hp : p.wf) : PF 43 [.agg (lift false (a9D p))] (bv (heavy9 p)) := by
  obtain ⟨L, l, Z⟩ := p
  obtain ⟨⟨hlL, hwL⟩, ⟨hl, hwF⟩, hlZ, hwZ⟩ := hp
  have hlen := ftDs_length l
  have hlen2 : (ftDs (Ask9.mk L l Z).F).length = l.length := hlen
  have hlenZ := inDs_length Z
  have hlenZ2 : (inDs (Ask9.mk L l Z).N).length = Z.length := hlenZ
  have hrL := wKs_range L hlL hwL
  have hF : ∀ u, u ∈ l → 0 ≤ wF u ∧ wF u ≤ 5000000000000000 := fun u hu => by
    have := wT_range u.t (hwF u hu).1; simp only [wF]; omega
  simp only [lenOk] at hl hlZ
  refine AC_intro Tryz.func43 rfl Tryz.ntmps43 (Nat.le_of_ble_eq_true rfl) fun c hL hQ hDD => ?_; refine awp_seq ?_; refine awp_region ?_; refine awps_stp1 rfl rfl (by decide) (stp_box 1 rfl rfl rfl) rfl ?_; refine awps_stp0 rfl rfl (by decide) (stp_move (.inr rfl) rfl) ?_; refine awps_nil ?_; refine thenQ_nil ?_; refine awp_seq ?_; refine awp_drawG 10 mixed rfl rfl rfl rfl ?_; refine MGo_c0 rfl (by decide) (.run rfl (stp_fieldAddr rfl fo_almagestlaw9_Ask_0 rfl)) ?_; refine MGo_c0 rfl (by decide) (.run rfl (stp_load rfl tf_S_api_Kept rfl rfl rfl rfl rfl)) ?_
  refine MGo_c0 rfl (by decide) (.run rfl (stp_call (avs := [_]) true rfl en_almagestlaw0_KeptsWeight rfl rfl (KeptsWeight_ok L hlL hwL) (fun _ => rfl) rfl)) ?_; refine MGo_c0 rfl (by decide) (.run rfl (stp_fieldAddr rfl fo_almagestlaw9_Ask_1 rfl)) ?_; refine MGo_c0 rfl (by decide) (.run rfl (stp_load rfl tf_S_api_Fact rfl rfl rfl rfl rfl)) ?_; refine MGo_c0 rfl (by decide) (.run rfl (stp_len_dat rfl sl_S_api_Fact rfl)) ?_; refine MGo_c0 rfl (by decide) (.run rfl (stp_add rfl rfl rfl (by omega))) ?_; refine MGo_c0 rfl (by decide) (.run rfl (stp_fieldAddr rfl fo_almagestlaw9_Ask_2 rfl)) ?_
  refine MGo_c0 rfl (by decide) (.run rfl (stp_load rfl tf_S_int rfl rfl rfl rfl rfl)) ?_; refine MGo_c0 rfl (by decide) (.run rfl (stp_len_dat rfl sl_S_int rfl)) ?_; refine MGo_nil ⟨rfl, rfl, ?_⟩; refine awps_stp0 rfl rfl (by decide) (stp_add rfl rfl rfl (by omega)) ?_; refine awps_stp0 rfl rfl (by decide) (stp_move (.inr rfl) rfl) ?_; refine awps_nil ?_; refine thenQ_nil ?_; refine awp_seq ?_; refine awp_seq ?_; refine awp_region ?_; refine awps_stp0 rfl rfl (by decide) (stp_move (.inr rfl) rfl) ?_; refine awps_nil ?_; refine thenQ_nil ?_
  refine awp_block ?_; refine awp_while (l.length) (fun k => k ≤ l.length ∧ ∀ j, j < k → wgtL wF (wKs L + l.length + Z.length) (l.take j) < 1048576) (fun k => ⟨[(1, .ptr 1 0), (3, iv (wgtL wF (wKs L + l.length + Z.length) (l.take k))), (4, iv (k : Int))], [(1, .box (lift false (a9D ⟨L, l, Z⟩)))]⟩) (⟨by omega, fun j hj => absurd hj (by omega)⟩) ?_ (fun k hk hp => ?_)
  · exact sub_re (SubT.cons (lk_eq rfl (by first | rfl | simp)) (SubT.cons (lk_eq rfl (by exact int_imm (by simp only [List.take_zero, wgtL]; omega))) (SubT.cons (lk_eq rfl (by first | rfl | simp)) (SubT.nil)))) (SubO.cons (ok_eq rfl (by rfl)) (SubO.nil)) rfl rfl (noL' (noL hL) _)
  have hwk := wgtL_le wF 5000000000000000 (by omega) (wKs L + l.length + Z.length) (l.take k) (fun u hu => (hF u (List.mem_of_mem_take hu)).2) (by omega)
  have hw0 := wgtL_ge' wF (wKs L + l.length + Z.length) (l.take k) (fun u hu => (hF u (List.mem_of_mem_take hu)).1)
  refine awp_seq ?_; refine awp_seq ?_; refine awp_region ?_; refine awps_stp0 rfl rfl (by decide) (stp_move (.inl rfl) rfl) ?_; refine awps_stp0 rfl rfl (by decide) (stp_fieldAddr rfl fo_almagestlaw9_Ask_1 rfl) ?_; refine awps_stp0 rfl rfl (by decide) (stp_load rfl tf_S_api_Fact rfl rfl rfl rfl rfl) ?_; refine awps_stp0 rfl rfl (by decide) (stp_len_dat rfl sl_S_api_Fact rfl) ?_; refine awps_stp0 rfl rfl (by decide) (stp_binI rfl rfl rfl rfl) ?_; refine awps_stp0 rfl rfl (by decide) (stp_move (.inl rfl) rfl) ?_; refine awps_split 21 rfl (fun g21 => ?_) (fun g21 => ?_)
  · try simp only [↓cqA, cqB] at g21
    obtain ⟨u, hu⟩ := get_of_lt (l := l) (k := k) (by omega)
    have hum := List.mem_of_getElem? hu
    have huw := hF u hum
    have hul := (hwF u hum).1
    have hws : wF u = wT u.t := rfl
    refine awps_g0 rfl rfl rfl (by decide) rfl (by decide) (stp_move (.inl rfl) rfl) ?_; refine awps_g0 rfl rfl rfl (by decide) rfl (by decide) (stp_binI rfl rfl rfl rfl) ?_; refine awps_stp0 rfl rfl (by decide) (stp_pick rfl rfl rfl) ?_; refine awps_nil ?_; refine thenQ_nil ?_; refine awp_cond rfl (fun c0 => ?_) (fun c0 => ?_)
    · try simp only [↓cqA, cqB] at c0
      refine awp_skip ?_; refine thenQ_nil ?_; refine awp_seq ?_; refine awp_block ?_; refine awp_region ?_; refine awps_stp0 rfl rfl (by decide) (stp_move (.inl rfl) rfl) ?_; refine awps_stp0 rfl rfl (by decide) (stp_fieldAddr rfl fo_almagestlaw9_Ask_1 rfl) ?_; refine awps_stp0 rfl rfl (by decide) (stp_load rfl tf_S_api_Fact rfl rfl rfl rfl rfl) ?_; refine awps_stp0 rfl rfl (by decide) (stp_move (.inl rfl) rfl) ?_; refine awps_stp0 rfl rfl (by decide) (stp_indexAddr rfl sl_S_api_Fact rfl rfl (by omega) (ftDs_get hu)) ?_
      refine awps_stp0 rfl rfl (by decide) (stp_fieldAddr_elp rfl fo_api_Fact_0 rfl) ?_; refine awps_stp0 rfl rfl (by decide) (stp_load_elpn rfl tf_api_Term rfl rfl rfl) ?_; refine awps_call (avs := [_, _]) true rfl rfl rfl (by decide) en_almagestlaw0_TermWeight rfl rfl (TermWeight30_ok u.t hul) rfl rfl ?_; refine awps_stp0 rfl rfl (by decide) (stp_add rfl rfl rfl (by omega)) ?_; refine awps_stp0 rfl rfl (by decide) (stp_move (.inr rfl) rfl) ?_; refine awps_nil ?_; refine inQ_nil ?_; refine thenQ_nil ?_; refine awp_region ?_
      refine awps_stp0 rfl rfl (by decide) (stp_move (.inl rfl) rfl) ?_; refine awps_stp0 rfl rfl (by decide) (stp_add rfl rfl rfl (by omega)) ?_; refine awps_stp0 rfl rfl (by decide) (stp_move (.inr rfl) rfl) ?_; refine awps_nil ?_
      have hb := wgtL_snoc wF (wKs L + l.length + Z.length) (l.take k) u (fun j hj => by
        by_cases hjk : j < k
        · have := hp.2 j hjk; rwa [List.take_take, Nat.min_eq_left (by omega)]
        · rw [List.take_of_length_le (by simp; omega)]; omega)
      rw [← take_snoc hu] at hb
      refine thenQ_nil ?_; refine ⟨?_, ?_, ?_⟩
      · skip
        omega
      · skip
        refine ⟨by omega, fun j hj => ?_⟩
        by_cases hjk : j < k
        · exact hp.2 j hjk
        · rw [show j = k by omega]; omega
      exact sub_re (SubT.cons (lk_eq rfl (by first | rfl | simp)) (SubT.cons (lk_eq rfl (by exact int_imm (by rw [hb]; try omega))) (SubT.cons (lk_eq rfl (by first | rfl | simp)) (SubT.nil)))) (SubO.cons (ok_eq rfl (by rfl)) (SubO.nil)) rfl rfl (noL' (noL hL) _)
    try simp only [↓cqA, cqB] at c0
    have hfin : wgtL wF (wKs L + l.length + Z.length) (l.take k) = wgtL wF (wKs L + l.length + Z.length) l := ((wgtL_take wF _ _ k hp.1 hp.2).trans (wgtL_stop _ _ _ (by omega))).symm
    refine awp_exit ?_; refine thenQ_exit (thenQ_exit (inQ_hit ?_)); refine thenQ_nil ?_; refine awp_seq ?_; refine awp_region ?_; refine awps_stp0 rfl rfl (by decide) (stp_move (.inl rfl) rfl) ?_; refine awps_stp0 rfl rfl (by decide) (stp_binI rfl rfl rfl rfl) ?_; refine awps_stp0 rfl rfl (by decide) (stp_move (.inr rfl) rfl) ?_; refine awps_nil ?_; refine thenQ_nil ?_; refine awp_ret ?_
    -- leaf g21T0F
    refine ret0 (noL hL) (.inl rfl) (resAs_tmp rfl (resAs_nil)) ?_ ?_
    · rfl
    refine ⟨bool_w ?_, rfl⟩
    rw [hfin]
    simp only [heavy9]
    try rfl
  try simp only [↓cqA, cqB] at g21
  have hfin : wgtL wF (wKs L + l.length + Z.length) (l.take k) = wgtL wF (wKs L + l.length + Z.length) l := by rw [List.take_of_length_le (by omega)]
  refine awps_gs rfl rfl rfl rfl (by decide) rfl (by decide) ?_; refine awps_gs rfl rfl rfl rfl (by decide) rfl (by decide) ?_; refine awps_stp0 rfl rfl (by decide) (stp_pick rfl rfl rfl) ?_; refine awps_nil ?_; refine thenQ_nil ?_; refine awp_condF rfl ?_; refine awp_exit ?_; refine thenQ_exit (thenQ_exit (inQ_hit ?_)); refine thenQ_nil ?_; refine awp_seq ?_; refine awp_region ?_
  refine awps_stp0 rfl rfl (by decide) (stp_move (.inl rfl) rfl) ?_; refine awps_stp0 rfl rfl (by decide) (stp_binI rfl rfl rfl rfl) ?_; refine awps_stp0 rfl rfl (by decide) (stp_move (.inr rfl) rfl) ?_; refine awps_nil ?_; refine thenQ_nil ?_; refine awp_ret ?_
  -- leaf g21F
  refine ret0 (noL hL) (.inl rfl) (resAs_tmp rfl (resAs_nil)) ?_ ?_
  · rfl
  refine ⟨bool_w ?_, rfl⟩
  rw [hfin]
  simp only [heavy9]
  try rfl
end Go.Proofs.YtdecgkhdbfgldaaGreat

set_option linter.unusedVariables false
set_option linter.unusedSimpArgs false
set_option maxRecDepth 8000
namespace Go.Proofs.YtdecgkhdbfgldaaGreat
open Go
abbrev sa : ByteArray := ⟨#[97]⟩
def f0 : Ft := ⟨nmT sa [], 1, 2⟩
theorem f0_wf : f0.wf := ⟨nmT_w _ _ (by decide) (by decide) (fun t ht => by cases ht), by simp [i64, f0], by simp [i64, f0]⟩
def l0 : List Kp := [⟨7, f0⟩]
theorem l0_wf : ∀ k ∈ l0, k.wf := fun k hk => by
  simp only [l0, List.mem_cons, List.not_mem_nil, or_false] at hk
  subst hk; exact ⟨by simp [i64], f0_wf⟩
theorem wakes9_ok : PF 64 [] (bv true) := by
  have k1 : PF 56 [.imm (.slice none 0 0), iv 7, ftA f0] (.tup [.dat true 7 (kpDs l0), iv 0]) := by
    have h := AC_le (.cons .nil (.cons .refl (.cons .refl .nil))) (Add_ok [] (fun k hk => by cases hk) 7 (by simp [i64]) f0 f0_wf)
    rw [show addL [] 7 f0 = l0 by kernel_rfl, show addE [] 7 f0 = 0 by kernel_rfl] at h
    exact h
  have k2 := Find_ok l0 l0_wf f0 f0_wf
  rw [show findN l0 f0 = 7 by kernel_rfl, show findE l0 f0 = 0 by kernel_rfl] at k2
  refine AC_intro Tryz.func64 rfl Tryz.ntmps64 (Nat.le_of_ble_eq_true rfl) fun c hL hQ hDD => ?_; refine awp_seq ?_; refine awp_region ?_; refine awps_stp0 rfl rfl (by decide) (stp_move (.inr rfl) rfl) ?_; refine awps_nil ?_; refine thenQ_nil ?_; refine awp_seq ?_; refine awp_region ?_; refine awps_stp0 rfl rfl (by decide) (stp_build rfl zv_api_Term rfl pl_api_Term rfl rfl) ?_
  refine awps_stp0 rfl rfl (by decide) (stp_build rfl zv_api_Span rfl pl_api_Span rfl rfl) ?_; refine awps_sub (sub_le 6 rfl (.agg (ds := lift false (tmD (nmT sa []))) (.cons .refl (.cons .refl (.cons .refl (.cons .nil .nil)))))) ?_; refine awps_stp0 rfl rfl (by decide) (stp_build rfl zv_api_Fact rfl pl_api_Fact rfl rfl) ?_; refine awps_stp1 rfl rfl (by decide) (stp_alloc 1 rfl zv_api_Fact rfl) rfl ?_; refine awps_store rfl rfl rfl tf_api_Fact rfl rfl rfl rfl rfl rfl rfl rfl rfl ?_; refine awps_nil ?_; refine thenQ_nil ?_; refine awp_seq ?_; refine awp_region ?_
  refine awps_stp0 rfl rfl (by decide) (stp_load_all rfl tf_api_Fact rfl rfl rfl rfl) ?_; refine awps_call (avs := [_, _, _]) true rfl rfl rfl (by decide) en_facts_Add rfl rfl (k1) rfl rfl ?_; refine awps_stp0 rfl rfl (by decide) (stp_move (.inl rfl) rfl) ?_; refine awps_stp0 rfl rfl (by decide) (stp_extract rfl rfl rfl) ?_; refine awps_stp0 rfl rfl (by decide) (stp_extract rfl rfl rfl) ?_; refine awps_stp0 rfl rfl (by decide) (stp_move (.inr rfl) rfl) ?_
  refine awps_stp0 rfl rfl (by decide) (stp_move (.inr rfl) rfl) ?_; refine awps_nil ?_; refine thenQ_nil ?_; refine awp_seq ?_; refine awp_sub (sub_untag hQ) ?_; refine awp_region ?_; refine awps_stp0 rfl rfl (by decide) (stp_move (.inl rfl) rfl) ?_; refine awps_stp0 rfl rfl (by decide) (stp_load_all rfl tf_api_Fact rfl rfl rfl rfl) ?_
  refine awps_call (avs := [_, _]) true rfl rfl rfl (by decide) en_facts_Find rfl rfl (k2) rfl rfl ?_; refine awps_stp0 rfl rfl (by decide) (stp_move (.inl rfl) rfl) ?_; refine awps_stp0 rfl rfl (by decide) (stp_extract rfl rfl rfl) ?_; refine awps_stp0 rfl rfl (by decide) (stp_extract rfl rfl rfl) ?_; refine awps_stp0 rfl rfl (by decide) (stp_move (.inr rfl) rfl) ?_
  refine awps_stp0 rfl rfl (by decide) (stp_move (.inr rfl) rfl) ?_; refine awps_nil ?_; refine thenQ_nil ?_; refine awp_seq ?_; refine awp_region ?_; refine awps_stp0 rfl rfl (by decide) (stp_move (.inl rfl) rfl) ?_; refine awps_call (avs := [_]) true rfl rfl rfl (by decide) en_almagestlaw9_num rfl rfl (num9_ok _) rfl rfl ?_; refine awps_stp0 rfl rfl (by decide) (stp_binI rfl rfl rfl rfl) ?_; refine awps_stp0 rfl rfl (by decide) (stp_move (.inl rfl) rfl) ?_; refine awps_split 23 rfl (fun g23 => ?_) (fun g23 => ?_)
  · try simp only [↓cqA, cqB] at g23
    refine awps_g0 rfl rfl rfl (by decide) rfl (by decide) (stp_move (.inl rfl) rfl) ?_; refine awps_g0 rfl rfl rfl (by decide) rfl (by decide) (stp_call (avs := [_]) true rfl en_almagestlaw9_num rfl rfl (num9_ok _) (fun _ => rfl) rfl) ?_; refine awps_g0 rfl rfl rfl (by decide) rfl (by decide) (stp_binI rfl rfl rfl rfl) ?_; refine awps_stp0 rfl rfl (by decide) (stp_pick rfl rfl rfl) ?_; refine awps_stp0 rfl rfl (by decide) (stp_move (.inl rfl) rfl) ?_; refine awps_split 28 rfl (fun g28 => ?_) (fun g28 => ?_)
    · try simp only [↓cqA, cqB] at g28
      refine awps_g0 rfl rfl rfl (by decide) rfl (by decide) (stp_move (.inl rfl) rfl) ?_; refine awps_g0 rfl rfl rfl (by decide) rfl (by decide) (stp_binI rfl rfl rfl rfl) ?_; refine awps_stp0 rfl rfl (by decide) (stp_pick rfl rfl rfl) ?_; refine awps_stp0 rfl rfl (by decide) (stp_move (.inr rfl) rfl) ?_; refine awps_nil ?_; refine thenQ_nil ?_; refine awp_ret ?_
      -- leaf g23Tg28T
      refine ret0 (noL hL) (.inl rfl) (resAs_tmp rfl (resAs_nil)) ?_ ?_
      · rfl
      first
      | exact ⟨rfl, rfl⟩
      | exact absurd trivial (by assumption)
    try simp only [↓cqA, cqB] at g28
    refine awps_gs rfl rfl rfl rfl (by decide) rfl (by decide) ?_; refine awps_gs rfl rfl rfl rfl (by decide) rfl (by decide) ?_; refine awps_stp0 rfl rfl (by decide) (stp_pick rfl rfl rfl) ?_; refine awps_stp0 rfl rfl (by decide) (stp_move (.inr rfl) rfl) ?_; refine awps_nil ?_; refine thenQ_nil ?_; refine awp_ret ?_
    -- leaf g23Tg28F
    refine ret0 (noL hL) (.inl rfl) (resAs_tmp rfl (resAs_nil)) ?_ ?_
    · rfl
    first
    | exact ⟨rfl, rfl⟩
    | exact absurd trivial (by assumption)
  try simp only [↓cqA, cqB] at g23
  refine awps_gs rfl rfl rfl rfl (by decide) rfl (by decide) ?_; refine awps_gs rfl rfl rfl rfl (by decide) rfl (by decide) ?_; refine awps_gs rfl rfl rfl rfl (by decide) rfl (by decide) ?_; refine awps_stp0 rfl rfl (by decide) (stp_pick rfl rfl rfl) ?_; refine awps_stp0 rfl rfl (by decide) (stp_move (.inl rfl) rfl) ?_; refine awps_gs rfl rfl rfl rfl (by decide) rfl (by decide) ?_
  refine awps_gs rfl rfl rfl rfl (by decide) rfl (by decide) ?_; refine awps_stp0 rfl rfl (by decide) (stp_pick rfl rfl rfl) ?_; refine awps_stp0 rfl rfl (by decide) (stp_move (.inr rfl) rfl) ?_; refine awps_nil ?_; refine thenQ_nil ?_; refine awp_ret ?_
  -- leaf g23F
  refine ret0 (noL hL) (.inl rfl) (resAs_tmp rfl (resAs_nil)) ?_ ?_
  · rfl
  first
  | exact ⟨rfl, rfl⟩
  | exact absurd trivial (by assumption)
end Go.Proofs.YtdecgkhdbfgldaaGreat

set_option linter.unusedVariables false
set_option linter.unusedSimpArgs false
set_option maxRecDepth 8000
namespace Go.Proofs.YtdecgkhdbfgldaaGreat
open Go
theorem run_eqSpan (w : World) (a b c d : Int) : (binOp .eql 84 (.agg #[.int .i64 a, .int .i64 b]) (.agg #[.int .i64 c, .int .i64 d])).run Tryz.prog w = .ok (.bool (a == c && b == d)) w := by
  have u3 := Tryz.underlying3
  have a3 := Tryz.isAgg3
  have z3 := Tryz.sizeOf3
  have hS : Tryz.prog.underlying 84 = some (.struct (Tryz.prog.fieldsOf 84)) := by kernel_rfl
  have hp : Tryz.prog.stoodInHeld 84 = false := by kernel_rfl
  rw [run_eql_struct, show (10000 : Nat) = 9999 + 1 from rfl, run_equalIn_agg w 9999 84 _ _ hS hp]
  simp only [Program.fieldsOf, Tryz.underlying84]
  go_simp
  by_cases h1 : a = c <;> by_cases h2 : b = d <;> simp [h1, h2]
theorem stp_eqSpan {c : Ctx} {N : Nat} {σ : St} {o : Oper} {x y : Operand} {t' : TypeId} {a b p q : Int} (ho : o.op = .binOp .eql 84 x y t') (hx : ev σ.T x = some (.agg [iv a, iv b])) (hy : ev σ.T y = some (.agg [iv p, iv q])) : Stp Tryz.prog c N o σ [] (.imm (.bool (a == p && b == q))) [] := by
  refine stp_value fun σ' h1 _ st w ρ S hc => ⟨_, ?_, by simp only [Rep]; rfl⟩
  have hx' := ev_rep hc (h1 x (by simp [ho, Op.operands]) _ hx)
  have hy' := ev_rep hc (h1 y (by simp [ho, Op.operands]) _ hy)
  simp only [Rep, RepL] at hx' hy'
  obtain ⟨_, hxe, _, _, _, rfl, rfl, _, _, rfl, rfl, rfl⟩ := hx'
  obtain ⟨_, hye, _, _, _, rfl, rfl, _, _, rfl, rfl, rfl⟩ := hy'
  simp only [execOp, ho, hxe, hye]
  simp only [Sem.run_bind, run_eqGuard_agg (P := Tryz.prog) w .eql 84 x y _ _ (by kernel_rfl), Result.andThen_ok]
  have := run_eqSpan w a b p q
  simp only [List.toArray] at *
  simp [Sem.run_bind, this]
def eqF (a b : Ft) : Bool := eqT 5 a.t b.t && (a.fr == b.fr && a.to == b.to)
theorem EqFact_ok (a b : Ft) (hd : dle 5 a.t) (ha : a.wf) (hb : b.wf) : PF 117 [ftA a, ftA b] (bv (eqF a b)) := by
  have ha1 := ha.1
  have hb1 := hb.1
  refine AC_intro Tryz.func117 rfl Tryz.ntmps117 (Nat.le_of_ble_eq_true rfl) fun c hL hQ hDD => ?_; refine awp_seq ?_; refine awp_region ?_; refine awps_stp1 rfl rfl (by decide) (stp_box 2 rfl rfl rfl) rfl ?_; refine awps_stp1 rfl rfl (by decide) (stp_box 3 rfl rfl rfl) rfl ?_; refine awps_stp0 rfl rfl (by decide) (stp_move (.inr rfl) rfl) ?_; refine awps_nil ?_; refine thenQ_nil ?_; refine awp_seq ?_; refine awp_region ?_; refine awps_stp0 rfl rfl (by decide) (stp_fieldAddr rfl fo_api_Fact_0 rfl) ?_; refine awps_stp0 rfl rfl (by decide) (stp_load rfl tf_api_Term rfl rfl rfl rfl rfl) ?_
  refine awps_stp0 rfl rfl (by decide) (stp_fieldAddr rfl fo_api_Fact_0 rfl) ?_; refine awps_stp0 rfl rfl (by decide) (stp_load rfl tf_api_Term rfl rfl rfl rfl rfl) ?_; refine awps_call (avs := [_, _]) true rfl rfl rfl (by decide) en_almagestref0_EqTerm rfl rfl (EqTerm_ok 5 a.t b.t hd ha1 hb1) rfl rfl ?_; refine awps_stp0 rfl rfl (by decide) (stp_move (.inl rfl) rfl) ?_; refine awps_split 10 rfl (fun g10 => ?_) (fun g10 => ?_)
  · try simp only [↓cqA, cqB] at g10
    refine awps_g0 rfl rfl rfl (by decide) rfl (by decide) (stp_fieldAddr rfl fo_api_Fact_1 rfl) ?_; refine awps_g0 rfl rfl rfl (by decide) rfl (by decide) (stp_load rfl tf_api_Span rfl rfl rfl rfl rfl) ?_; refine awps_g0 rfl rfl rfl (by decide) rfl (by decide) (stp_fieldAddr rfl fo_api_Fact_1 rfl) ?_; refine awps_g0 rfl rfl rfl (by decide) rfl (by decide) (stp_load rfl tf_api_Span rfl rfl rfl rfl rfl) ?_
    refine awps_g0 rfl rfl rfl (by decide) rfl (by decide) (stp_eqSpan rfl rfl rfl) ?_; refine awps_stp0 rfl rfl (by decide) (stp_pick rfl rfl rfl) ?_; refine awps_stp0 rfl rfl (by decide) (stp_move (.inr rfl) rfl) ?_; refine awps_nil ?_; refine thenQ_nil ?_; refine awp_ret ?_
    -- leaf g10T
    refine ret0 (noL hL) (.inl rfl) (resAs_tmp rfl (resAs_nil)) ?_ ?_
    · rfl
    refine ⟨bool_w ?_, rfl⟩
    simp_all [eqF]
  try simp only [↓cqA, cqB] at g10
  refine awps_gs rfl rfl rfl rfl (by decide) rfl (by decide) ?_; refine awps_gs rfl rfl rfl rfl (by decide) rfl (by decide) ?_; refine awps_gs rfl rfl rfl rfl (by decide) rfl (by decide) ?_; refine awps_gs rfl rfl rfl rfl (by decide) rfl (by decide) ?_; refine awps_gs rfl rfl rfl rfl (by decide) rfl (by decide) ?_; refine awps_stp0 rfl rfl (by decide) (stp_pick rfl rfl rfl) ?_; refine awps_stp0 rfl rfl (by decide) (stp_move (.inr rfl) rfl) ?_; refine awps_nil ?_; refine thenQ_nil ?_; refine awp_ret ?_
  -- leaf g10F
  refine ret0 (noL hL) (.inl rfl) (resAs_tmp rfl (resAs_nil)) ?_ ?_
  · rfl
  refine ⟨bool_w ?_, rfl⟩
  simp_all [eqF]
end Go.Proofs.YtdecgkhdbfgldaaGreat

set_option linter.unusedVariables false
set_option linter.unusedSimpArgs false
set_option maxRecDepth 8000
namespace Go.Proofs.YtdecgkhdbfgldaaGreat
open Go
theorem CopyFact_ok (d : Nat) (f : Ft) (hd : dle d f.t) (hf : f.wf) : PF 179 [ftA f] (.agg (lift true (ftD f))) := by
  have hft := hf.1
  refine AC_intro Tryz.func179 rfl Tryz.ntmps179 (Nat.le_of_ble_eq_true rfl) fun c hL hQ hDD => ?_; refine awp_seq ?_; refine awp_region ?_; refine awps_stp1 rfl rfl (by decide) (stp_box 1 rfl rfl rfl) rfl ?_; refine awps_stp1 rfl rfl (by decide) (stp_alloc 2 rfl zv_api_Fact rfl) rfl ?_; refine awps_nil ?_; refine thenQ_nil ?_; refine awp_seq ?_; refine awp_region ?_; refine awps_stp0 rfl rfl (by decide) (stp_load_all rfl tf_api_Fact rfl rfl rfl rfl) ?_
  refine awps_stp1 rfl rfl (by decide) (stp_alloc 3 rfl zv_api_Fact rfl) rfl ?_; refine awps_store rfl rfl rfl tf_api_Fact rfl rfl rfl rfl rfl rfl rfl rfl rfl ?_; refine awps_nil ?_; refine thenQ_nil ?_; refine awp_seq ?_; refine awp_region ?_; refine awps_stp0 rfl rfl (by decide) (stp_fieldAddr rfl fo_api_Fact_0 rfl) ?_; refine awps_stp0 rfl rfl (by decide) (stp_load rfl tf_api_Term rfl rfl rfl rfl rfl) ?_; refine awps_call (avs := [_]) true rfl rfl rfl (by decide) en_almagestref0_CopyTerm rfl rfl (CopyTerm_ok d f.t hd hft) rfl rfl ?_
  refine awps_stp0 rfl rfl (by decide) (stp_fieldAddr rfl fo_api_Fact_0 rfl) ?_; refine awps_store rfl rfl rfl tf_api_Term rfl rfl rfl rfl rfl rfl rfl rfl rfl ?_; refine awps_nil ?_; refine thenQ_nil ?_; refine awp_seq ?_; refine awp_region ?_; refine awps_stp0 rfl rfl (by decide) (stp_load_all rfl tf_api_Fact rfl rfl rfl rfl) ?_; refine awps_store rfl rfl rfl tf_api_Fact rfl rfl rfl rfl rfl rfl rfl rfl rfl ?_; refine awps_nil ?_; refine thenQ_nil ?_; refine awp_ret ?_
  -- leaf 
  refine ret0 (noL hL) (.inl rfl) (resAs_cell tf_api_Fact rfl rfl rfl (resAs_nil)) ?_ ?_
  · rfl
  exact ⟨rfl, rfl⟩
theorem CopyFactU_ok (d : Nat) (f : Ft) (hd : dle d f.t) (hf : f.wf) : PF 179 [ftA f] (.agg (lift false (ftD f))) := by
  have hft := hf.1
  refine AC_intro Tryz.func179 rfl Tryz.ntmps179 (Nat.le_of_ble_eq_true rfl) fun c hL hQ hDD => ?_; refine awp_seq ?_; refine awp_region ?_; refine awps_stp1 rfl rfl (by decide) (stp_box 1 rfl rfl rfl) rfl ?_; refine awps_stp1 rfl rfl (by decide) (stp_alloc 2 rfl zv_api_Fact rfl) rfl ?_; refine awps_nil ?_; refine thenQ_nil ?_; refine awp_seq ?_; refine awp_region ?_; refine awps_stp0 rfl rfl (by decide) (stp_load_all rfl tf_api_Fact rfl rfl rfl rfl) ?_
  refine awps_stp1 rfl rfl (by decide) (stp_alloc 3 rfl zv_api_Fact rfl) rfl ?_; refine awps_store rfl rfl rfl tf_api_Fact rfl rfl rfl rfl rfl rfl rfl rfl rfl ?_; refine awps_nil ?_; refine thenQ_nil ?_; refine awp_seq ?_; refine awp_region ?_; refine awps_stp0 rfl rfl (by decide) (stp_fieldAddr rfl fo_api_Fact_0 rfl) ?_; refine awps_stp0 rfl rfl (by decide) (stp_load rfl tf_api_Term rfl rfl rfl rfl rfl) ?_; refine awps_call (avs := [_]) true rfl rfl rfl (by decide) en_almagestref0_CopyTerm rfl rfl (CopyTerm_ok d f.t hd hft) rfl rfl ?_
  refine awps_stp0 rfl rfl (by decide) (stp_fieldAddr rfl fo_api_Fact_0 rfl) ?_; refine awps_store rfl rfl rfl tf_api_Term rfl rfl rfl rfl rfl rfl rfl rfl rfl ?_; refine awps_nil ?_; refine thenQ_nil ?_; refine awp_seq ?_; refine awp_sub (sub_untag hQ) ?_; refine awp_region ?_; refine awps_stp0 rfl rfl (by decide) (stp_load_all rfl tf_api_Fact rfl rfl rfl rfl) ?_; refine awps_store rfl rfl rfl tf_api_Fact rfl rfl rfl rfl rfl rfl rfl rfl rfl ?_; refine awps_nil ?_; refine thenQ_nil ?_; refine awp_ret ?_
  -- leaf 
  refine ret0 (noL hL) (.inl rfl) (resAs_cell tf_api_Fact rfl rfl rfl (resAs_nil)) ?_ ?_
  · rfl
  exact ⟨rfl, rfl⟩
theorem CopyKept_ok (d : Nat) (k : Kp) (hd : dle d k.f.t) (hk : k.wf) : PF 116 [kpA k] (.agg (lift true (kpD k))) := by
  have hkf := hk.2
  refine AC_intro Tryz.func116 rfl Tryz.ntmps116 (Nat.le_of_ble_eq_true rfl) fun c hL hQ hDD => ?_; refine awp_seq ?_; refine awp_region ?_; refine awps_stp1 rfl rfl (by decide) (stp_box 1 rfl rfl rfl) rfl ?_; refine awps_stp1 rfl rfl (by decide) (stp_alloc 2 rfl zv_api_Kept rfl) rfl ?_; refine awps_nil ?_; refine thenQ_nil ?_; refine awp_seq ?_; refine awp_region ?_; refine awps_stp0 rfl rfl (by decide) (stp_load_all rfl tf_api_Kept rfl rfl rfl rfl) ?_
  refine awps_stp1 rfl rfl (by decide) (stp_alloc 3 rfl zv_api_Kept rfl) rfl ?_; refine awps_store rfl rfl rfl tf_api_Kept rfl rfl rfl rfl rfl rfl rfl rfl rfl ?_; refine awps_nil ?_; refine thenQ_nil ?_; refine awp_seq ?_; refine awp_region ?_; refine awps_stp0 rfl rfl (by decide) (stp_fieldAddr rfl fo_api_Kept_1 rfl) ?_; refine awps_stp0 rfl rfl (by decide) (stp_load rfl tf_api_Fact rfl rfl rfl rfl rfl) ?_; refine awps_call (avs := [_]) true rfl rfl rfl (by decide) en_almagestref0_CopyFact rfl rfl (CopyFact_ok d k.f hd hkf) rfl rfl ?_
  refine awps_stp0 rfl rfl (by decide) (stp_fieldAddr rfl fo_api_Kept_1 rfl) ?_; refine awps_store rfl rfl rfl tf_api_Fact rfl rfl rfl rfl rfl rfl rfl rfl rfl ?_; refine awps_nil ?_; refine thenQ_nil ?_; refine awp_seq ?_; refine awp_region ?_; refine awps_stp0 rfl rfl (by decide) (stp_load_all rfl tf_api_Kept rfl rfl rfl rfl) ?_; refine awps_store rfl rfl rfl tf_api_Kept rfl rfl rfl rfl rfl rfl rfl rfl rfl ?_; refine awps_nil ?_; refine thenQ_nil ?_; refine awp_ret ?_
  -- leaf 
  refine ret0 (noL hL) (.inl rfl) (resAs_cell tf_api_Kept rfl rfl rfl (resAs_nil)) ?_ ?_
  · rfl
  exact ⟨rfl, rfl⟩
theorem CopyFactsU_ok (d : Nat) (l : List Ft) (hl : l.length ≤ 1000000000) (hd : ∀ b ∈ l, dle d b.t) (hw : ∀ b ∈ l, b.wf) : AC Tryz.prog 186 [.dat false 6 (ftDs l)] [] (fun r O => r = .row 3 ∧ O = [(3, .rowd 86 6 false (ftDs l))]) := by
  have hlen := ftDs_length l
  refine AC_intro Tryz.func186 rfl Tryz.ntmps186 (Nat.le_of_ble_eq_true rfl) fun c hL hQ hDD => ?_; refine awp_seq ?_; refine awp_region ?_; refine awps_stp0 rfl rfl (by decide) (stp_move (.inr rfl) rfl) ?_; refine awps_nil ?_; refine thenQ_nil ?_; refine awp_seq ?_; refine awp_region ?_; refine awps_stp0 rfl rfl (by decide) (stp_move (.inr rfl) rfl) ?_; refine awps_nil ?_; refine thenQ_nil ?_
  refine awp_seq ?_; refine awp_seq ?_; refine awp_region ?_; refine awps_stp0 rfl rfl (by decide) (stp_move (.inr rfl) rfl) ?_; refine awps_nil ?_; refine thenQ_nil ?_; refine awp_block ?_; refine awp_while (l.length) (fun k => k ≤ l.length) (fun k => ⟨[(0, .dat false 6 (ftDs l)), (3, .row 3), (4, iv (k : Int))], [(3, .rowd 86 6 true (ftDs (l.take k)))]⟩) (by omega) ?_ (fun k hk hp => ?_)
  · exact Sub.trans (sub_nil_row (t := 3) (l := 3) 86 6 true rfl rfl) (sub_re (SubT.cons (lk_eq rfl (by first | rfl | simp)) (SubT.cons (lk_eq rfl (by first | rfl | simp)) (SubT.cons (lk_eq rfl (by first | rfl | simp)) (SubT.nil)))) (SubO.cons (ok_eq rfl (by rfl)) (SubO.nil)) rfl rfl (noL' (noL hL) _))
  have hl2 : (ftDs (l.take k)).length ≤ l.length := by rw [ftDs_length, List.length_take]; omega
  refine awp_seq ?_; refine awp_seq ?_; refine awp_region ?_; refine awps_stp0 rfl rfl (by decide) (stp_move (.inl rfl) rfl) ?_; refine awps_stp0 rfl rfl (by decide) (stp_move (.inl rfl) rfl) ?_; refine awps_stp0 rfl rfl (by decide) (stp_len_dat rfl sl_S_api_Fact rfl) ?_; refine awps_stp0 rfl rfl (by decide) (stp_binI rfl rfl rfl rfl) ?_; refine awps_nil ?_; refine thenQ_nil ?_; refine awp_cond rfl (fun c0 => ?_) (fun c0 => ?_)
  · try simp only [↓cqA, cqB] at c0
    obtain ⟨u, hu⟩ := get_of_lt (l := l) (k := k) (by omega)
    have hum := List.mem_of_getElem? hu
    refine awp_skip ?_; refine thenQ_nil ?_; refine awp_seq ?_; refine awp_block ?_; refine awp_region ?_; refine awps_stp0 rfl rfl (by decide) (stp_move (.inl rfl) rfl) ?_; refine awps_stp0 rfl rfl (by decide) (stp_move (.inl rfl) rfl) ?_; refine awps_stp0 rfl rfl (by decide) (stp_move (.inl rfl) rfl) ?_; refine awps_stp0 rfl rfl (by decide) (stp_indexAddr rfl sl_S_api_Fact rfl rfl (by omega) (ftDs_get hu)) ?_; refine awps_stp0 rfl rfl (by decide) (stp_load_elpa rfl tf_api_Fact rfl rfl) ?_
    refine awps_call (avs := [_]) true rfl rfl rfl (by decide) en_almagestref0_CopyFact rfl rfl (CopyFact_ok d u (hd u hum) (hw u hum)) rfl rfl ?_; refine awps_stp1 rfl rfl (by decide) (stp_buildSlice 17 rfl sl_S_api_Fact zv_api_Fact rfl rfl (by decide) (by decide) (by decide) rfl rfl rfl) rfl ?_; refine awps_u rfl rfl (by decide) (stpU_append1 18 ta_S_api_Fact rfl rfl rfl rfl rfl rfl rfl rfl (noL hL _) (by omega) rfl) rfl ?_
    refine awps_stp0 rfl rfl (by decide) (stp_move (.inr rfl) rfl) ?_; refine awps_nil ?_; refine inQ_nil ?_; refine thenQ_nil ?_; refine awp_region ?_; refine awps_stp0 rfl rfl (by decide) (stp_move (.inl rfl) rfl) ?_; refine awps_stp0 rfl rfl (by decide) (stp_add rfl rfl rfl (by omega)) ?_; refine awps_stp0 rfl rfl (by decide) (stp_move (.inr rfl) rfl) ?_; refine awps_nil ?_; refine thenQ_nil ?_; refine ⟨?_, ?_, ?_⟩
    · skip
      omega
    · skip
      omega
    exact Sub.trans (sub_rename 18 3 (noL hL _) (noL hL _)) (sub_re (SubT.cons (lk_eq rfl (by first | rfl | simp)) (SubT.cons (lk_eq rfl (by first | rfl | simp)) (SubT.cons (lk_eq rfl (by first | rfl | simp)) (SubT.nil)))) (SubO.cons (ok_eq rfl (by rw [take_snoc hu, ftDs, ftDs, List.map_append]; rfl)) (SubO.nil)) rfl rfl (noL' (noL hL) _))
  try simp only [↓cqA, cqB] at c0
  refine awp_exit ?_; refine thenQ_exit (thenQ_exit (inQ_hit ?_)); refine thenQ_nil ?_; refine awp_seq ?_; refine awp_sub (sub_untag hQ) ?_; refine awp_region ?_; refine awps_stp0 rfl rfl (by decide) (stp_move (.inl rfl) rfl) ?_; refine awps_stp0 rfl rfl (by decide) (stp_move (.inr rfl) rfl) ?_; refine awps_nil ?_; refine thenQ_nil ?_; refine awp_ret ?_
  -- leaf 0F
  change retQ _ _ _ _ _ _ _
  refine retO (O' := [(3, _)]) (.inl rfl) (resAs_tmp rfl resAs_nil) (SubO.cons rfl SubO.nil) ?_ ?_ (noL' (noL hL) _) ?_
  · rfl
  · rfl
  exact ⟨rfl, by rw [List.take_of_length_le (by omega)]; rfl⟩
theorem CopyKepts_ok (d : Nat) (l : List Kp) (hl : l.length ≤ 1000000000) (hd : ∀ b ∈ l, dle d b.f.t) (hw : ∀ b ∈ l, b.wf) : AC Tryz.prog 44 [.dat false 7 (kpDs l)] [] (fun r O => r = .row 3 ∧ O = [(3, .rowd 92 7 true (kpDs l))]) := by
  have hlen := kpDs_length l
  refine AC_intro Tryz.func44 rfl Tryz.ntmps44 (Nat.le_of_ble_eq_true rfl) fun c hL hQ hDD => ?_; refine awp_seq ?_; refine awp_region ?_; refine awps_stp0 rfl rfl (by decide) (stp_move (.inr rfl) rfl) ?_; refine awps_nil ?_; refine thenQ_nil ?_; refine awp_seq ?_; refine awp_region ?_; refine awps_stp0 rfl rfl (by decide) (stp_move (.inr rfl) rfl) ?_; refine awps_nil ?_; refine thenQ_nil ?_
  refine awp_seq ?_; refine awp_seq ?_; refine awp_region ?_; refine awps_stp0 rfl rfl (by decide) (stp_move (.inr rfl) rfl) ?_; refine awps_nil ?_; refine thenQ_nil ?_; refine awp_block ?_; refine awp_while (l.length) (fun k => k ≤ l.length) (fun k => ⟨[(0, .dat false 7 (kpDs l)), (3, .row 3), (4, iv (k : Int))], [(3, .rowd 92 7 true (kpDs (l.take k)))]⟩) (by omega) ?_ (fun k hk hp => ?_)
  · exact Sub.trans (sub_nil_row (t := 3) (l := 3) 92 7 true rfl rfl) (sub_re (SubT.cons (lk_eq rfl (by first | rfl | simp)) (SubT.cons (lk_eq rfl (by first | rfl | simp)) (SubT.cons (lk_eq rfl (by first | rfl | simp)) (SubT.nil)))) (SubO.cons (ok_eq rfl (by rfl)) (SubO.nil)) rfl rfl (noL' (noL hL) _))
  have hl2 : (kpDs (l.take k)).length ≤ l.length := by rw [kpDs_length, List.length_take]; omega
  refine awp_seq ?_; refine awp_seq ?_; refine awp_region ?_; refine awps_stp0 rfl rfl (by decide) (stp_move (.inl rfl) rfl) ?_; refine awps_stp0 rfl rfl (by decide) (stp_move (.inl rfl) rfl) ?_; refine awps_stp0 rfl rfl (by decide) (stp_len_dat rfl sl_S_api_Kept rfl) ?_; refine awps_stp0 rfl rfl (by decide) (stp_binI rfl rfl rfl rfl) ?_; refine awps_nil ?_; refine thenQ_nil ?_; refine awp_cond rfl (fun c0 => ?_) (fun c0 => ?_)
  · try simp only [↓cqA, cqB] at c0
    obtain ⟨u, hu⟩ := get_of_lt (l := l) (k := k) (by omega)
    have hum := List.mem_of_getElem? hu
    refine awp_skip ?_; refine thenQ_nil ?_; refine awp_seq ?_; refine awp_block ?_; refine awp_region ?_; refine awps_stp0 rfl rfl (by decide) (stp_move (.inl rfl) rfl) ?_; refine awps_stp0 rfl rfl (by decide) (stp_move (.inl rfl) rfl) ?_; refine awps_stp0 rfl rfl (by decide) (stp_move (.inl rfl) rfl) ?_; refine awps_stp0 rfl rfl (by decide) (stp_indexAddr rfl sl_S_api_Kept rfl rfl (by omega) (kpDs_get hu)) ?_; refine awps_stp0 rfl rfl (by decide) (stp_load_elpa rfl tf_api_Kept rfl rfl) ?_
    refine awps_call (avs := [_]) true rfl rfl rfl (by decide) en_almagestref0_CopyKept rfl rfl (CopyKept_ok d u (hd u hum) (hw u hum)) rfl rfl ?_; refine awps_stp1 rfl rfl (by decide) (stp_buildSlice 17 rfl sl_S_api_Kept zv_api_Kept rfl rfl (by decide) (by decide) (by decide) rfl rfl rfl) rfl ?_; refine awps_u rfl rfl (by decide) (stpU_append1 18 ta_S_api_Kept rfl rfl rfl rfl rfl rfl rfl rfl (noL hL _) (by omega) rfl) rfl ?_
    refine awps_stp0 rfl rfl (by decide) (stp_move (.inr rfl) rfl) ?_; refine awps_nil ?_; refine inQ_nil ?_; refine thenQ_nil ?_; refine awp_region ?_; refine awps_stp0 rfl rfl (by decide) (stp_move (.inl rfl) rfl) ?_; refine awps_stp0 rfl rfl (by decide) (stp_add rfl rfl rfl (by omega)) ?_; refine awps_stp0 rfl rfl (by decide) (stp_move (.inr rfl) rfl) ?_; refine awps_nil ?_; refine thenQ_nil ?_; refine ⟨?_, ?_, ?_⟩
    · skip
      omega
    · skip
      omega
    exact Sub.trans (sub_rename 18 3 (noL hL _) (noL hL _)) (sub_re (SubT.cons (lk_eq rfl (by first | rfl | simp)) (SubT.cons (lk_eq rfl (by first | rfl | simp)) (SubT.cons (lk_eq rfl (by first | rfl | simp)) (SubT.nil)))) (SubO.cons (ok_eq rfl (by rw [take_snoc hu, kpDs, kpDs, List.map_append]; rfl)) (SubO.nil)) rfl rfl (noL' (noL hL) _))
  try simp only [↓cqA, cqB] at c0
  refine awp_exit ?_; refine thenQ_exit (thenQ_exit (inQ_hit ?_)); refine thenQ_nil ?_; refine awp_seq ?_; refine awp_region ?_; refine awps_stp0 rfl rfl (by decide) (stp_move (.inl rfl) rfl) ?_; refine awps_stp0 rfl rfl (by decide) (stp_move (.inr rfl) rfl) ?_; refine awps_nil ?_; refine thenQ_nil ?_; refine awp_ret ?_
  -- leaf 0F
  change retQ _ _ _ _ _ _ _
  refine retO (O' := [(3, _)]) (.inl rfl) (resAs_tmp rfl resAs_nil) (SubO.cons rfl SubO.nil) ?_ ?_ (noL' (noL hL) _) ?_
  · rfl
  · rfl
  exact ⟨rfl, by rw [List.take_of_length_le (by omega)]⟩
theorem EqFactSelf_ok (d : Nat) (a : Ft) (hd : dle d a.t) (ha : a.wf) : PF 117 [ftA a, ftA a] (bv true) := by
  have ha1 := ha.1
  have key := EqTerm_ok d a.t a.t hd ha1 ha1
  rw [eqT_selfd hd] at key
  refine AC_intro Tryz.func117 rfl Tryz.ntmps117 (Nat.le_of_ble_eq_true rfl) fun c hL hQ hDD => ?_; refine awp_seq ?_; refine awp_region ?_; refine awps_stp1 rfl rfl (by decide) (stp_box 2 rfl rfl rfl) rfl ?_; refine awps_stp1 rfl rfl (by decide) (stp_box 3 rfl rfl rfl) rfl ?_; refine awps_stp0 rfl rfl (by decide) (stp_move (.inr rfl) rfl) ?_; refine awps_nil ?_; refine thenQ_nil ?_; refine awp_seq ?_; refine awp_region ?_; refine awps_stp0 rfl rfl (by decide) (stp_fieldAddr rfl fo_api_Fact_0 rfl) ?_; refine awps_stp0 rfl rfl (by decide) (stp_load rfl tf_api_Term rfl rfl rfl rfl rfl) ?_
  refine awps_stp0 rfl rfl (by decide) (stp_fieldAddr rfl fo_api_Fact_0 rfl) ?_; refine awps_stp0 rfl rfl (by decide) (stp_load rfl tf_api_Term rfl rfl rfl rfl rfl) ?_; refine awps_call (avs := [_, _]) true rfl rfl rfl (by decide) en_almagestref0_EqTerm rfl rfl (key) rfl rfl ?_; refine awps_stp0 rfl rfl (by decide) (stp_move (.inl rfl) rfl) ?_; refine awps_split 10 rfl (fun g10 => ?_) (fun g10 => ?_)
  · try simp only [↓cqA, cqB] at g10
    refine awps_g0 rfl rfl rfl (by decide) rfl (by decide) (stp_fieldAddr rfl fo_api_Fact_1 rfl) ?_; refine awps_g0 rfl rfl rfl (by decide) rfl (by decide) (stp_load rfl tf_api_Span rfl rfl rfl rfl rfl) ?_; refine awps_g0 rfl rfl rfl (by decide) rfl (by decide) (stp_fieldAddr rfl fo_api_Fact_1 rfl) ?_; refine awps_g0 rfl rfl rfl (by decide) rfl (by decide) (stp_load rfl tf_api_Span rfl rfl rfl rfl rfl) ?_
    refine awps_g0 rfl rfl rfl (by decide) rfl (by decide) (stp_eqSpan rfl rfl rfl) ?_; refine awps_stp0 rfl rfl (by decide) (stp_pick rfl rfl rfl) ?_; refine awps_stp0 rfl rfl (by decide) (stp_move (.inr rfl) rfl) ?_; refine awps_nil ?_; refine thenQ_nil ?_; refine awp_ret ?_
    -- leaf g10T
    refine ret0 (noL hL) (.inl rfl) (resAs_tmp rfl (resAs_nil)) ?_ ?_
    · rfl
    refine ⟨bool_w ?_, rfl⟩
    first | rfl | simp_all
  try simp only [↓cqA, cqB] at g10
  refine awps_gs rfl rfl rfl rfl (by decide) rfl (by decide) ?_; refine awps_gs rfl rfl rfl rfl (by decide) rfl (by decide) ?_; refine awps_gs rfl rfl rfl rfl (by decide) rfl (by decide) ?_; refine awps_gs rfl rfl rfl rfl (by decide) rfl (by decide) ?_; refine awps_gs rfl rfl rfl rfl (by decide) rfl (by decide) ?_; refine awps_stp0 rfl rfl (by decide) (stp_pick rfl rfl rfl) ?_; refine awps_stp0 rfl rfl (by decide) (stp_move (.inr rfl) rfl) ?_; refine awps_nil ?_; refine thenQ_nil ?_; refine awp_ret ?_
  -- leaf g10F
  refine ret0 (noL hL) (.inl rfl) (resAs_tmp rfl (resAs_nil)) ?_ ?_
  · rfl
  refine ⟨bool_w ?_, rfl⟩
  first | rfl | simp_all
theorem EqKeptSelf_ok (d : Nat) (a : Kp) (hd : dle d a.f.t) (ha : a.wf) : PF 127 [kpA a, kpA a] (bv true) := by
  have ha2 := ha.2
  refine AC_intro Tryz.func127 rfl Tryz.ntmps127 (Nat.le_of_ble_eq_true rfl) fun c hL hQ hDD => ?_; refine awp_seq ?_; refine awp_region ?_; refine awps_stp1 rfl rfl (by decide) (stp_box 2 rfl rfl rfl) rfl ?_; refine awps_stp1 rfl rfl (by decide) (stp_box 3 rfl rfl rfl) rfl ?_; refine awps_stp0 rfl rfl (by decide) (stp_move (.inr rfl) rfl) ?_; refine awps_nil ?_; refine thenQ_nil ?_; refine awp_seq ?_; refine awp_region ?_; refine awps_stp0 rfl rfl (by decide) (stp_fieldAddr rfl fo_api_Kept_0 rfl) ?_; refine awps_stp0 rfl rfl (by decide) (stp_load rfl tf_int rfl rfl rfl rfl rfl) ?_
  refine awps_stp0 rfl rfl (by decide) (stp_fieldAddr rfl fo_api_Kept_0 rfl) ?_; refine awps_stp0 rfl rfl (by decide) (stp_load rfl tf_int rfl rfl rfl rfl rfl) ?_; refine awps_stp0 rfl rfl (by decide) (stp_binI rfl rfl rfl rfl) ?_; refine awps_stp0 rfl rfl (by decide) (stp_move (.inl rfl) rfl) ?_; refine awps_split 10 rfl (fun g10 => ?_) (fun g10 => ?_)
  · try simp only [↓cqA, cqB] at g10
    refine awps_g0 rfl rfl rfl (by decide) rfl (by decide) (stp_fieldAddr rfl fo_api_Kept_1 rfl) ?_; refine awps_g0 rfl rfl rfl (by decide) rfl (by decide) (stp_load rfl tf_api_Fact rfl rfl rfl rfl rfl) ?_; refine awps_g0 rfl rfl rfl (by decide) rfl (by decide) (stp_fieldAddr rfl fo_api_Kept_1 rfl) ?_; refine awps_g0 rfl rfl rfl (by decide) rfl (by decide) (stp_load rfl tf_api_Fact rfl rfl rfl rfl rfl) ?_
    refine awps_g0 rfl rfl rfl (by decide) rfl (by decide) (stp_call (avs := [_, _]) true rfl en_almagestref0_EqFact rfl rfl (EqFactSelf_ok d a.f hd ha2) (fun _ => rfl) rfl) ?_; refine awps_stp0 rfl rfl (by decide) (stp_pick rfl rfl rfl) ?_; refine awps_stp0 rfl rfl (by decide) (stp_move (.inr rfl) rfl) ?_; refine awps_nil ?_; refine thenQ_nil ?_; refine awp_ret ?_
    -- leaf g10T
    refine ret0 (noL hL) (.inl rfl) (resAs_tmp rfl (resAs_nil)) ?_ ?_
    · rfl
    refine ⟨bool_w ?_, rfl⟩
    first | rfl | simp_all
  try simp only [↓cqA, cqB] at g10
  refine awps_gs rfl rfl rfl rfl (by decide) rfl (by decide) ?_; refine awps_gs rfl rfl rfl rfl (by decide) rfl (by decide) ?_; refine awps_gs rfl rfl rfl rfl (by decide) rfl (by decide) ?_; refine awps_gs rfl rfl rfl rfl (by decide) rfl (by decide) ?_; refine awps_gs rfl rfl rfl rfl (by decide) rfl (by decide) ?_; refine awps_stp0 rfl rfl (by decide) (stp_pick rfl rfl rfl) ?_; refine awps_stp0 rfl rfl (by decide) (stp_move (.inr rfl) rfl) ?_; refine awps_nil ?_; refine thenQ_nil ?_; refine awp_ret ?_
  -- leaf g10F
  refine ret0 (noL hL) (.inl rfl) (resAs_tmp rfl (resAs_nil)) ?_ ?_
  · rfl
  refine ⟨bool_w ?_, rfl⟩
  first | rfl | simp_all
theorem EqFactsSelf_ok (d : Nat) (x : List Ft) (hd : ∀ u ∈ x, dle d u.t) (wx : ∀ u ∈ x, u.wf) (lx : x.length ≤ 140737488351232) : PF 50 [.dat false 6 (ftDs x), .dat false 6 (ftDs x)] (bv true) := by
  have hlx := ftDs_length x
  refine AC_intro Tryz.func50 rfl Tryz.ntmps50 (Nat.le_of_ble_eq_true rfl) fun c hL hQ hDD => ?_; refine awp_seq ?_; refine awp_region ?_; refine awps_stp0 rfl rfl (by decide) (stp_move (.inr rfl) rfl) ?_; refine awps_nil ?_; refine thenQ_nil ?_; refine awp_seq ?_; refine awp_seq ?_; refine awp_region ?_; refine awps_stp0 rfl rfl (by decide) (stp_move (.inl rfl) rfl) ?_; refine awps_stp0 rfl rfl (by decide) (stp_len_dat rfl sl_S_api_Fact rfl) ?_; refine awps_stp0 rfl rfl (by decide) (stp_move (.inl rfl) rfl) ?_; refine awps_stp0 rfl rfl (by decide) (stp_len_dat rfl sl_S_api_Fact rfl) ?_
  refine awps_stp0 rfl rfl (by decide) (stp_binI rfl rfl rfl rfl) ?_; refine awps_nil ?_; refine thenQ_nil ?_; refine awp_cond rfl (fun c0 => ?_) (fun c0 => ?_)
  · try simp only [↓cqA, cqB] at c0
    refine awp_seq ?_; refine awp_region ?_; refine awps_stp0 rfl rfl (by decide) (stp_move (.inr rfl) rfl) ?_; refine awps_nil ?_; refine thenQ_nil ?_; refine awp_ret ?_; refine thenQ_ret (?_)
    -- leaf 0T
    refine ret0 (noL hL) (.inl rfl) (resAs_tmp rfl (resAs_nil)) ?_ ?_
    · rfl
    first
    | exact ⟨rfl, rfl⟩
    | exact absurd trivial c0
    | exact absurd rfl c0
    | exact absurd c2 (by simp)
    | exact absurd c2 Bool.noConfusion
    | (trace_state; fail)
  try simp only [↓cqA, cqB] at c0
  refine awp_skip ?_; refine thenQ_nil ?_; refine awp_seq ?_; refine awp_seq ?_; refine awp_region ?_; refine awps_stp0 rfl rfl (by decide) (stp_move (.inr rfl) rfl) ?_; refine awps_nil ?_; refine thenQ_nil ?_; refine awp_block ?_; refine awp_while (x.length) (fun k => k ≤ x.length) (fun k => ⟨[(0, .dat false 6 (ftDs x)), (1, .dat false 6 (ftDs x)), (5, iv (k : Int))], []⟩) (by omega) ?_ (fun k hk hp => ?_)
  · exact sub_re (SubT.cons (lk_eq rfl (by first | rfl | simp)) (SubT.cons (lk_eq rfl (by first | rfl | simp)) (SubT.cons (lk_eq rfl (by first | rfl | simp)) (SubT.nil)))) (SubO.nil) rfl rfl (noL' (noL hL) _)
  refine awp_seq ?_; refine awp_seq ?_; refine awp_region ?_; refine awps_stp0 rfl rfl (by decide) (stp_move (.inl rfl) rfl) ?_; refine awps_stp0 rfl rfl (by decide) (stp_move (.inl rfl) rfl) ?_; refine awps_stp0 rfl rfl (by decide) (stp_len_dat rfl sl_S_api_Fact rfl) ?_; refine awps_stp0 rfl rfl (by decide) (stp_binI rfl rfl rfl rfl) ?_; refine awps_nil ?_; refine thenQ_nil ?_; refine awp_cond rfl (fun c1 => ?_) (fun c1 => ?_)
  · try simp only [↓cqA, cqB] at c1
    obtain ⟨u, hu⟩ := get_of_lt (l := x) (k := k) (by omega)
    refine awp_skip ?_; refine thenQ_nil ?_; refine awp_seq ?_; refine awp_block ?_; refine awp_seq ?_; refine awp_drawG 8 mixed rfl rfl rfl rfl ?_; refine MGo_c0 rfl (by decide) (.run rfl (stp_move (.inl rfl) rfl)) ?_; refine MGo_c0 rfl (by decide) (.run rfl (stp_move (.inl rfl) rfl)) ?_; refine MGo_c0 rfl (by decide) (.run rfl (stp_indexAddr rfl sl_S_api_Fact rfl rfl (by omega) (ftDs_get hu))) ?_; refine MGo_c0 rfl (by decide) (.run rfl (stp_load_elpa rfl tf_api_Fact rfl rfl)) ?_
    refine MGo_c0 rfl (by decide) (.run rfl (stp_move (.inl rfl) rfl)) ?_; refine MGo_c0 rfl (by decide) (.run rfl (stp_move (.inl rfl) rfl)) ?_; refine MGo_c0 rfl (by decide) (.run rfl (stp_indexAddr rfl sl_S_api_Fact rfl rfl (by omega) (ftDs_get hu))) ?_; refine MGo_c0 rfl (by decide) (.run rfl (stp_load_elpa rfl tf_api_Fact rfl rfl)) ?_
    refine MGo_nil ⟨rfl, rfl, ?_⟩; refine awps_call (avs := [_, _]) true rfl rfl rfl (by decide) en_almagestref0_EqFact rfl rfl (EqFactSelf_ok d u (hd u (List.mem_of_getElem? hu)) (wx u (List.mem_of_getElem? hu))) rfl rfl ?_; refine awps_stp0 rfl rfl (by decide) (stp_not rfl rfl) ?_; refine awps_nil ?_; refine thenQ_nil ?_; refine awp_cond rfl (fun c2 => ?_) (fun c2 => ?_)
    · try simp only [↓cqA, cqB] at c2
      refine awp_seq ?_; refine awp_region ?_; refine awps_stp0 rfl rfl (by decide) (stp_move (.inr rfl) rfl) ?_; refine awps_nil ?_; refine thenQ_nil ?_; refine awp_ret ?_; refine inQ_ret (thenQ_ret (thenQ_ret (inQ_ret (thenQ_ret (?_)))))
      -- leaf 0F1T2T
      refine ret0 (noL hL) (.inl rfl) (resAs_tmp rfl (resAs_nil)) ?_ ?_
      · rfl
      first
      | exact ⟨rfl, rfl⟩
      | exact absurd trivial c0
      | exact absurd rfl c0
      | exact absurd c2 (by simp)
      | exact absurd c2 Bool.noConfusion
      | (trace_state; fail)
    try simp only [↓cqA, cqB] at c2
    refine awp_skip ?_; refine inQ_nil ?_; refine thenQ_nil ?_; refine awp_region ?_; refine awps_stp0 rfl rfl (by decide) (stp_move (.inl rfl) rfl) ?_; refine awps_stp0 rfl rfl (by decide) (stp_add rfl rfl rfl (by omega)) ?_; refine awps_stp0 rfl rfl (by decide) (stp_move (.inr rfl) rfl) ?_; refine awps_nil ?_; refine thenQ_nil ?_; refine ⟨?_, ?_, ?_⟩
    · skip
      omega
    · skip
      omega
    exact sub_re (SubT.cons (lk_eq rfl (by first | rfl | simp)) (SubT.cons (lk_eq rfl (by first | rfl | simp)) (SubT.cons (lk_eq rfl (by first | rfl | simp)) (SubT.nil)))) (SubO.nil) rfl rfl (noL' (noL hL) _)
  try simp only [↓cqA, cqB] at c1
  refine awp_exit ?_; refine thenQ_exit (thenQ_exit (inQ_hit ?_)); refine thenQ_nil ?_; refine awp_seq ?_; refine awp_region ?_; refine awps_stp0 rfl rfl (by decide) (stp_move (.inr rfl) rfl) ?_; refine awps_nil ?_; refine thenQ_nil ?_; refine awp_ret ?_
  -- leaf 0F1F
  refine ret0 (noL hL) (.inl rfl) (resAs_tmp rfl (resAs_nil)) ?_ ?_
  · rfl
  first
  | exact ⟨rfl, rfl⟩
  | exact absurd trivial c0
  | exact absurd rfl c0
  | exact absurd c2 (by simp)
  | exact absurd c2 Bool.noConfusion
  | (trace_state; fail)
theorem EqKeptsSelf_ok (d : Nat) (x : List Kp) (hd : ∀ u ∈ x, dle d u.f.t) (wx : ∀ u ∈ x, u.wf) (lx : x.length ≤ 140737488351232) : PF 58 [.dat false 7 (kpDs x), .dat false 7 (kpDs x)] (bv true) := by
  have hlx := kpDs_length x
  refine AC_intro Tryz.func58 rfl Tryz.ntmps58 (Nat.le_of_ble_eq_true rfl) fun c hL hQ hDD => ?_; refine awp_seq ?_; refine awp_region ?_; refine awps_stp0 rfl rfl (by decide) (stp_move (.inr rfl) rfl) ?_; refine awps_nil ?_; refine thenQ_nil ?_; refine awp_seq ?_; refine awp_seq ?_; refine awp_region ?_; refine awps_stp0 rfl rfl (by decide) (stp_move (.inl rfl) rfl) ?_; refine awps_stp0 rfl rfl (by decide) (stp_len_dat rfl sl_S_api_Kept rfl) ?_; refine awps_stp0 rfl rfl (by decide) (stp_move (.inl rfl) rfl) ?_; refine awps_stp0 rfl rfl (by decide) (stp_len_dat rfl sl_S_api_Kept rfl) ?_
  refine awps_stp0 rfl rfl (by decide) (stp_binI rfl rfl rfl rfl) ?_; refine awps_nil ?_; refine thenQ_nil ?_; refine awp_cond rfl (fun c0 => ?_) (fun c0 => ?_)
  · try simp only [↓cqA, cqB] at c0
    refine awp_seq ?_; refine awp_region ?_; refine awps_stp0 rfl rfl (by decide) (stp_move (.inr rfl) rfl) ?_; refine awps_nil ?_; refine thenQ_nil ?_; refine awp_ret ?_; refine thenQ_ret (?_)
    -- leaf 0T
    refine ret0 (noL hL) (.inl rfl) (resAs_tmp rfl (resAs_nil)) ?_ ?_
    · rfl
    first
    | exact ⟨rfl, rfl⟩
    | exact absurd trivial c0
    | exact absurd rfl c0
    | exact absurd c2 (by simp)
    | exact absurd c2 Bool.noConfusion
    | (trace_state; fail)
  try simp only [↓cqA, cqB] at c0
  refine awp_skip ?_; refine thenQ_nil ?_; refine awp_seq ?_; refine awp_seq ?_; refine awp_region ?_; refine awps_stp0 rfl rfl (by decide) (stp_move (.inr rfl) rfl) ?_; refine awps_nil ?_; refine thenQ_nil ?_; refine awp_block ?_; refine awp_while (x.length) (fun k => k ≤ x.length) (fun k => ⟨[(0, .dat false 7 (kpDs x)), (1, .dat false 7 (kpDs x)), (5, iv (k : Int))], []⟩) (by omega) ?_ (fun k hk hp => ?_)
  · exact sub_re (SubT.cons (lk_eq rfl (by first | rfl | simp)) (SubT.cons (lk_eq rfl (by first | rfl | simp)) (SubT.cons (lk_eq rfl (by first | rfl | simp)) (SubT.nil)))) (SubO.nil) rfl rfl (noL' (noL hL) _)
  refine awp_seq ?_; refine awp_seq ?_; refine awp_region ?_; refine awps_stp0 rfl rfl (by decide) (stp_move (.inl rfl) rfl) ?_; refine awps_stp0 rfl rfl (by decide) (stp_move (.inl rfl) rfl) ?_; refine awps_stp0 rfl rfl (by decide) (stp_len_dat rfl sl_S_api_Kept rfl) ?_; refine awps_stp0 rfl rfl (by decide) (stp_binI rfl rfl rfl rfl) ?_; refine awps_nil ?_; refine thenQ_nil ?_; refine awp_cond rfl (fun c1 => ?_) (fun c1 => ?_)
  · try simp only [↓cqA, cqB] at c1
    obtain ⟨u, hu⟩ := get_of_lt (l := x) (k := k) (by omega)
    refine awp_skip ?_; refine thenQ_nil ?_; refine awp_seq ?_; refine awp_block ?_; refine awp_seq ?_; refine awp_drawG 8 mixed rfl rfl rfl rfl ?_; refine MGo_c0 rfl (by decide) (.run rfl (stp_move (.inl rfl) rfl)) ?_; refine MGo_c0 rfl (by decide) (.run rfl (stp_move (.inl rfl) rfl)) ?_; refine MGo_c0 rfl (by decide) (.run rfl (stp_indexAddr rfl sl_S_api_Kept rfl rfl (by omega) (kpDs_get hu))) ?_; refine MGo_c0 rfl (by decide) (.run rfl (stp_load_elpa rfl tf_api_Kept rfl rfl)) ?_
    refine MGo_c0 rfl (by decide) (.run rfl (stp_move (.inl rfl) rfl)) ?_; refine MGo_c0 rfl (by decide) (.run rfl (stp_move (.inl rfl) rfl)) ?_; refine MGo_c0 rfl (by decide) (.run rfl (stp_indexAddr rfl sl_S_api_Kept rfl rfl (by omega) (kpDs_get hu))) ?_; refine MGo_c0 rfl (by decide) (.run rfl (stp_load_elpa rfl tf_api_Kept rfl rfl)) ?_
    refine MGo_nil ⟨rfl, rfl, ?_⟩; refine awps_call (avs := [_, _]) true rfl rfl rfl (by decide) en_almagestref0_EqKept rfl rfl (EqKeptSelf_ok d u (hd u (List.mem_of_getElem? hu)) (wx u (List.mem_of_getElem? hu))) rfl rfl ?_; refine awps_stp0 rfl rfl (by decide) (stp_not rfl rfl) ?_; refine awps_nil ?_; refine thenQ_nil ?_; refine awp_cond rfl (fun c2 => ?_) (fun c2 => ?_)
    · try simp only [↓cqA, cqB] at c2
      refine awp_seq ?_; refine awp_region ?_; refine awps_stp0 rfl rfl (by decide) (stp_move (.inr rfl) rfl) ?_; refine awps_nil ?_; refine thenQ_nil ?_; refine awp_ret ?_; refine inQ_ret (thenQ_ret (thenQ_ret (inQ_ret (thenQ_ret (?_)))))
      -- leaf 0F1T2T
      refine ret0 (noL hL) (.inl rfl) (resAs_tmp rfl (resAs_nil)) ?_ ?_
      · rfl
      first
      | exact ⟨rfl, rfl⟩
      | exact absurd trivial c0
      | exact absurd rfl c0
      | exact absurd c2 (by simp)
      | exact absurd c2 Bool.noConfusion
      | (trace_state; fail)
    try simp only [↓cqA, cqB] at c2
    refine awp_skip ?_; refine inQ_nil ?_; refine thenQ_nil ?_; refine awp_region ?_; refine awps_stp0 rfl rfl (by decide) (stp_move (.inl rfl) rfl) ?_; refine awps_stp0 rfl rfl (by decide) (stp_add rfl rfl rfl (by omega)) ?_; refine awps_stp0 rfl rfl (by decide) (stp_move (.inr rfl) rfl) ?_; refine awps_nil ?_; refine thenQ_nil ?_; refine ⟨?_, ?_, ?_⟩
    · skip
      omega
    · skip
      omega
    exact sub_re (SubT.cons (lk_eq rfl (by first | rfl | simp)) (SubT.cons (lk_eq rfl (by first | rfl | simp)) (SubT.cons (lk_eq rfl (by first | rfl | simp)) (SubT.nil)))) (SubO.nil) rfl rfl (noL' (noL hL) _)
  try simp only [↓cqA, cqB] at c1
  refine awp_exit ?_; refine thenQ_exit (thenQ_exit (inQ_hit ?_)); refine thenQ_nil ?_; refine awp_seq ?_; refine awp_region ?_; refine awps_stp0 rfl rfl (by decide) (stp_move (.inr rfl) rfl) ?_; refine awps_nil ?_; refine thenQ_nil ?_; refine awp_ret ?_
  -- leaf 0F1F
  refine ret0 (noL hL) (.inl rfl) (resAs_tmp rfl (resAs_nil)) ?_ ?_
  · rfl
  first
  | exact ⟨rfl, rfl⟩
  | exact absurd trivial c0
  | exact absurd rfl c0
  | exact absurd c2 (by simp)
  | exact absurd c2 Bool.noConfusion
  | (trace_state; fail)
theorem shFtD {f : Ft} {ds' : List D} (h : ShCs (ftD f) ds') : ∃ f' : Ft, ds' = ftD f' ∧ ∀ d, dlb d f.t → dlb d f'.t := by
  obtain ⟨⟨k, nm, n, xs⟩, fr, to⟩ := f
  simp only [ftD, tmD, spD, List.cons_append, List.nil_append, ShCs] at h
  obtain ⟨d1, r1, rfl, h1, d2, r2, rfl, h2, d3, r3, rfl, h3, d4, r4, rfl, h4, d5, r5, rfl, h5, d6, r6, rfl, h6, rfl⟩ := h
  have ht : ShCs (tmD ⟨k, nm, n, xs⟩) [d1, d2, d3, d4] := by
    simp only [tmD, ShCs]
    exact ⟨d1, _, rfl, h1, d2, _, rfl, h2, d3, _, rfl, h3, d4, _, rfl, h4, rfl⟩
  obtain ⟨t', e, ht'⟩ := shTmD ht
  simp only [ShD] at h5 h6
  obtain ⟨v5, rfl, h5⟩ := h5
  obtain ⟨v6, rfl, h6⟩ := h6
  obtain ⟨a, rfl⟩ := spv_int h5
  obtain ⟨b, rfl⟩ := spv_int h6
  refine ⟨⟨t', a, b⟩, ?_, ht'⟩
  rw [ftD, ← e]; rfl
theorem shFts : ∀ (l : List Ft) (es' : List (List D)), ShEs (ftDs l) es' → ∃ l', es' = ftDs l' ∧ l'.length = l.length ∧ ∀ d, (∀ b ∈ l, dlb d b.t) → ∀ b ∈ l', dlb d b.t
  | [], es', h => by simp only [ftDs, List.map_nil, ShEs] at h; subst h; exact ⟨[], rfl, rfl, fun d _ u hu => by cases hu⟩
  | b :: l, es', h => by
    simp only [ftDs, List.map_cons, ShEs] at h
    obtain ⟨e', es'', rfl, h1, h2⟩ := h
    obtain ⟨f', rfl, h3⟩ := shFtD h1
    obtain ⟨l', rfl, h4, h5⟩ := shFts l es'' h2
    refine ⟨f' :: l', rfl, by simp [h4], fun d hd u hu => ?_⟩
    rcases List.mem_cons.1 hu with rfl | hu
    · exact h3 d (hd b (by simp))
    · exact h5 d (fun u hu => hd u (by simp [hu])) u hu
theorem shKps : ∀ (l : List Kp) (es' : List (List D)), ShEs (kpDs l) es' → ∃ l', es' = kpDs l' ∧ l'.length = l.length ∧ ∀ d, (∀ b ∈ l, dlb d b.f.t) → ∀ b ∈ l', dlb d b.f.t
  | [], es', h => by simp only [kpDs, List.map_nil, ShEs] at h; subst h; exact ⟨[], rfl, rfl, fun d _ u hu => by cases hu⟩
  | b :: l, es', h => by
    simp only [kpDs, List.map_cons, kpD, ShEs, ShCs, ShD] at h
    obtain ⟨e', es'', rfl, ⟨_, _, rfl, ⟨v, rfl, h0⟩, h1⟩, h2⟩ := h
    obtain ⟨s', rfl⟩ := spv_int h0
    obtain ⟨f', rfl, h3⟩ := shFtD h1
    obtain ⟨l', rfl, h4, h5⟩ := shKps l es'' h2
    refine ⟨⟨s', f'⟩ :: l', rfl, by simp [h4], fun d hd u hu => ?_⟩
    rcases List.mem_cons.1 hu with rfl | hu
    · exact h3 d (hd b (by simp))
    · exact h5 d (fun u hu => hd u (by simp [hu])) u hu
theorem spoilFacts_ok (l : List Ft) (hd : ∀ b ∈ l, dlb 5 b.t) (hl : l.length ≤ 1000000) : SPC Tryz.prog 51 (.dat true 6 (ftDs l)) := by
  refine SPC_intro Tryz.func51 rfl Tryz.ntmps51 (Nat.le_of_ble_eq_true rfl) rfl fun c hL hQW hDD => ?_; refine awp_seq ?_; refine awp_region ?_; refine awps_stp0 rfl rfl (by decide) (stp_move (.inr rfl) rfl) ?_; refine awps_nil ?_; refine thenQ_nil ?_; refine awp_block ?_; refine awp_whileE (α := List Ft) (l.length) (fun k u => (∀ b ∈ u, dlb 5 b.t) ∧ u.length = l.length ∧ k ≤ l.length) (fun k u => ⟨[(0, .dat true 6 (ftDs u)), (2, iv (k : Int))], []⟩) (l) (⟨hd, rfl, by omega⟩) ?_ (fun k u hk hp => ?_)
  · exact sub_re (SubT.cons (lk_eq rfl (by first | rfl | simp)) (SubT.cons (lk_eq rfl (by first | rfl | simp)) (SubT.nil))) (SubO.nil) rfl rfl (noL' (noL hL) _)
  have hlu := ftDs_length u
  refine awp_seq ?_; refine awp_seq ?_; refine awp_region ?_; refine awps_stp0 rfl rfl (by decide) (stp_move (.inl rfl) rfl) ?_; refine awps_stp0 rfl rfl (by decide) (stp_move (.inl rfl) rfl) ?_; refine awps_stp0 rfl rfl (by decide) (stp_len_dat rfl sl_S_api_Fact rfl) ?_; refine awps_stp0 rfl rfl (by decide) (stp_binI rfl rfl rfl rfl) ?_; refine awps_nil ?_; refine thenQ_nil ?_; refine awp_cond rfl (fun c0 => ?_) (fun c0 => ?_)
  · try simp only [↓cqA, cqB] at c0
    obtain ⟨x, hx⟩ := get_of_lt (l := u) (k := k) (by omega)
    have hxd : dlb 5 x.t := hp.1 x (List.mem_of_getElem? hx)
    refine awp_skip ?_; refine thenQ_nil ?_; refine awp_seq ?_; refine awp_block ?_; refine awp_seq ?_; refine awp_region ?_; refine awps_stp0 rfl rfl (by decide) (stp_move (.inl rfl) rfl) ?_; refine awps_stp0 rfl rfl (by decide) (stp_move (.inl rfl) rfl) ?_; refine awps_stp0 rfl rfl (by decide) (stp_indexAddr rfl sl_S_api_Fact rfl rfl (by omega) (ftDs_get hx)) ?_; refine awps_stp0 rfl rfl (by decide) (stp_fieldAddr_elp rfl fo_api_Fact_0 rfl) ?_; refine awps_stp0 rfl rfl (by decide) (stp_load_elpn rfl tf_api_Term rfl rfl rfl) ?_
    refine awps_sub (sub_re (T1 := [(13, tmA true x.t), (0, .dat true 6 (ftDs u)), (2, iv (k : Int))]) (O1 := []) (SubT.cons rfl (SubT.cons rfl (SubT.cons rfl SubT.nil))) SubO.nil rfl rfl (noL' (noL hL) _)) ?_; refine awps_spoil rfl rfl rfl (by decide) en_almagestlaw0_Term rfl rfl rfl rfl (spoilTerm_ok 5 x.t hxd) hQW (fun T' O' hT hO => ?_)
    simp only [ShT, ShV, if_true] at hT
    obtain ⟨_, _, rfl, _, _, _, rfl, ⟨es, rfl, hes⟩, _, _, rfl, rfl, rfl⟩ := hT
    simp only [ShO] at hO
    subst hO
    obtain ⟨u1, rfl, hu1, hud1⟩ := shFts u es hes
    have hlu1 := ftDs_length u1
    obtain ⟨x1, hx1⟩ := get_of_lt (l := u1) (k := k) (by omega)
    refine awps_nil ?_; refine thenQ_nil ?_; refine awp_region ?_; refine awps_stp0 rfl rfl (by decide) (stp_move (.inl rfl) rfl) ?_; refine awps_stp0 rfl rfl (by decide) (stp_move (.inl rfl) rfl) ?_; refine awps_stp0 rfl rfl (by decide) (stp_build rfl zv_api_Fact rfl pl_api_Fact rfl rfl) ?_; refine awps_stp0 rfl rfl (by decide) (stp_indexAddr rfl sl_S_api_Fact rfl rfl (by omega) (ftDs_get hx1)) ?_
    refine awps_sub (sub_re (T1 := [(18, .elp true (ftD x1)), (17, .agg [iv 0, sv ⟨#[]⟩, iv 0, .imm (.slice none 0 0), iv 0, iv 0]), (0, .dat true 6 (ftDs u1)), (2, iv (k : Int))]) (O1 := []) (SubT.cons rfl (SubT.cons rfl (SubT.cons rfl (SubT.cons rfl SubT.nil)))) SubO.nil rfl rfl (noL' (noL hL) _)) ?_; refine awps_spoilstore rfl rfl rfl tf_api_Fact rfl rfl rfl rfl (by decide) rfl hQW (fun T' O' hT hO => ?_)
    simp only [ShT, ShV, if_true] at hT
    obtain ⟨_, _, rfl, _, _, _, rfl, _, _, _, rfl, ⟨es2, rfl, hes2⟩, _, _, rfl, rfl, rfl⟩ := hT
    simp only [ShO] at hO
    subst hO
    obtain ⟨u2, rfl, hu2, hud2⟩ := shFts u1 es2 hes2
    refine awps_nil ?_; refine inQ_nil ?_; refine thenQ_nil ?_; refine awp_region ?_; refine awps_stp0 rfl rfl (by decide) (stp_move (.inl rfl) rfl) ?_; refine awps_stp0 rfl rfl (by decide) (stp_add rfl rfl rfl (by omega)) ?_; refine awps_stp0 rfl rfl (by decide) (stp_move (.inr rfl) rfl) ?_; refine awps_nil ?_; refine thenQ_nil ?_; refine ⟨?_, u2, ?_, ?_⟩
    · skip
      omega
    · skip
      exact ⟨hud2 _ (hud1 _ hp.1), by omega, by omega⟩
    exact sub_re (SubT.cons (lk_eq rfl (by first | rfl | simp)) (SubT.cons (lk_eq rfl (by first | rfl | simp)) (SubT.nil))) (SubO.nil) rfl rfl (noL' (noL hL) _)
  try simp only [↓cqA, cqB] at c0
  refine awp_exit ?_; refine thenQ_exit (thenQ_exit (inQ_hit ?_))
  -- leaf 0F
  refine ret0 (noL hL) (.inr rfl) (resAs_nil) ?_ ?_
  · rfl
  exact ⟨rfl, rfl⟩
theorem spoilKepts_ok (l : List Kp) (hd : ∀ b ∈ l, dlb 5 b.f.t) (hl : l.length ≤ 1000000) : SPC Tryz.prog 59 (.dat true 7 (kpDs l)) := by
  refine SPC_intro Tryz.func59 rfl Tryz.ntmps59 (Nat.le_of_ble_eq_true rfl) rfl fun c hL hQW hDD => ?_; refine awp_seq ?_; refine awp_region ?_; refine awps_stp0 rfl rfl (by decide) (stp_move (.inr rfl) rfl) ?_; refine awps_nil ?_; refine thenQ_nil ?_; refine awp_block ?_; refine awp_whileE (α := List Kp) (l.length) (fun k u => (∀ b ∈ u, dlb 5 b.f.t) ∧ u.length = l.length ∧ k ≤ l.length) (fun k u => ⟨[(0, .dat true 7 (kpDs u)), (2, iv (k : Int))], []⟩) (l) (⟨hd, rfl, by omega⟩) ?_ (fun k u hk hp => ?_)
  · exact sub_re (SubT.cons (lk_eq rfl (by first | rfl | simp)) (SubT.cons (lk_eq rfl (by first | rfl | simp)) (SubT.nil))) (SubO.nil) rfl rfl (noL' (noL hL) _)
  have hlu := kpDs_length u
  refine awp_seq ?_; refine awp_seq ?_; refine awp_region ?_; refine awps_stp0 rfl rfl (by decide) (stp_move (.inl rfl) rfl) ?_; refine awps_stp0 rfl rfl (by decide) (stp_move (.inl rfl) rfl) ?_; refine awps_stp0 rfl rfl (by decide) (stp_len_dat rfl sl_S_api_Kept rfl) ?_; refine awps_stp0 rfl rfl (by decide) (stp_binI rfl rfl rfl rfl) ?_; refine awps_nil ?_; refine thenQ_nil ?_; refine awp_cond rfl (fun c0 => ?_) (fun c0 => ?_)
  · try simp only [↓cqA, cqB] at c0
    obtain ⟨x, hx⟩ := get_of_lt (l := u) (k := k) (by omega)
    have hxd : dlb 5 x.f.t := hp.1 x (List.mem_of_getElem? hx)
    refine awp_skip ?_; refine thenQ_nil ?_; refine awp_seq ?_; refine awp_block ?_; refine awp_seq ?_; refine awp_region ?_; refine awps_stp0 rfl rfl (by decide) (stp_move (.inl rfl) rfl) ?_; refine awps_stp0 rfl rfl (by decide) (stp_move (.inl rfl) rfl) ?_; refine awps_stp0 rfl rfl (by decide) (stp_indexAddr rfl sl_S_api_Kept rfl rfl (by omega) (kpDs_get hx)) ?_; refine awps_stp0 rfl rfl (by decide) (stp_fieldAddr_elp rfl fo_api_Kept_1 rfl) ?_; refine awps_stp0 rfl rfl (by decide) (stp_fieldAddr_elp rfl fo_api_Fact_0 rfl) ?_
    refine awps_stp0 rfl rfl (by decide) (stp_load_elpn rfl tf_api_Term rfl rfl rfl) ?_; refine awps_sub (sub_re (T1 := [(14, tmA true x.f.t), (0, .dat true 7 (kpDs u)), (2, iv (k : Int))]) (O1 := []) (SubT.cons rfl (SubT.cons rfl (SubT.cons rfl SubT.nil))) SubO.nil rfl rfl (noL' (noL hL) _)) ?_; refine awps_spoil rfl rfl rfl (by decide) en_almagestlaw0_Term rfl rfl rfl rfl (spoilTerm_ok 5 x.f.t hxd) hQW (fun T' O' hT hO => ?_)
    simp only [ShT, ShV, if_true] at hT
    obtain ⟨_, _, rfl, _, _, _, rfl, ⟨es, rfl, hes⟩, _, _, rfl, rfl, rfl⟩ := hT
    simp only [ShO] at hO
    subst hO
    obtain ⟨u1, rfl, hu1, hud1⟩ := shKps u es hes
    have hlu1 := kpDs_length u1
    obtain ⟨x1, hx1⟩ := get_of_lt (l := u1) (k := k) (by omega)
    refine awps_nil ?_; refine thenQ_nil ?_; refine awp_region ?_; refine awps_stp0 rfl rfl (by decide) (stp_move (.inl rfl) rfl) ?_; refine awps_stp0 rfl rfl (by decide) (stp_move (.inl rfl) rfl) ?_; refine awps_stp0 rfl rfl (by decide) (stp_build rfl zv_api_Kept rfl pl_api_Kept rfl rfl) ?_; refine awps_stp0 rfl rfl (by decide) (stp_indexAddr rfl sl_S_api_Kept rfl rfl (by omega) (kpDs_get hx1)) ?_
    refine awps_sub (sub_re (T1 := [(19, .elp true (kpD x1)), (18, .agg [iv (-9), iv 0, sv ⟨#[]⟩, iv 0, .imm (.slice none 0 0), iv 0, iv 0]), (0, .dat true 7 (kpDs u1)), (2, iv (k : Int))]) (O1 := []) (SubT.cons rfl (SubT.cons rfl (SubT.cons rfl (SubT.cons rfl SubT.nil)))) SubO.nil rfl rfl (noL' (noL hL) _)) ?_; refine awps_spoilstore rfl rfl rfl tf_api_Kept rfl rfl rfl rfl (by decide) rfl hQW (fun T' O' hT hO => ?_)
    simp only [ShT, ShV, if_true] at hT
    obtain ⟨_, _, rfl, _, _, _, rfl, _, _, _, rfl, ⟨es2, rfl, hes2⟩, _, _, rfl, rfl, rfl⟩ := hT
    simp only [ShO] at hO
    subst hO
    obtain ⟨u2, rfl, hu2, hud2⟩ := shKps u1 es2 hes2
    refine awps_nil ?_; refine inQ_nil ?_; refine thenQ_nil ?_; refine awp_region ?_; refine awps_stp0 rfl rfl (by decide) (stp_move (.inl rfl) rfl) ?_; refine awps_stp0 rfl rfl (by decide) (stp_add rfl rfl rfl (by omega)) ?_; refine awps_stp0 rfl rfl (by decide) (stp_move (.inr rfl) rfl) ?_; refine awps_nil ?_; refine thenQ_nil ?_; refine ⟨?_, u2, ?_, ?_⟩
    · skip
      omega
    · skip
      exact ⟨hud2 _ (hud1 _ hp.1), by omega, by omega⟩
    exact sub_re (SubT.cons (lk_eq rfl (by first | rfl | simp)) (SubT.cons (lk_eq rfl (by first | rfl | simp)) (SubT.nil))) (SubO.nil) rfl rfl (noL' (noL hL) _)
  try simp only [↓cqA, cqB] at c0
  refine awp_exit ?_; refine thenQ_exit (thenQ_exit (inQ_hit ?_))
  -- leaf 0F
  refine ret0 (noL hL) (.inr rfl) (resAs_nil) ?_ ?_
  · rfl
  exact ⟨rfl, rfl⟩
end Go.Proofs.YtdecgkhdbfgldaaGreat

set_option linter.unusedVariables false
set_option linter.unusedSimpArgs false
namespace Go.Proofs.YtdecgkhdbfgldaaGreat
open Go
theorem ordL_cmpL (f g : Tm → Tm → Int) : ∀ (l m : List Tm) (n : Int), l.length = m.length → (∀ u ∈ l, ∀ v ∈ m, f u v = g u v) → ordL g n l m = if n = 0 then cmpL f l m else n
  | [], [], n, _, _ => by
    simp only [ordL, cmpL]; split
    · rename_i h; exact h
    · rfl
  | a :: l, b :: m, n, hl, h => by
    have ih := ordL_cmpL f g l m (g a b) (by simpa using hl) (fun u hu v hv => h u (by simp [hu]) v (by simp [hv]))
    have h0 := h a (by simp) b (by simp)
    simp only [ordL, cmpL]
    split
    · rw [ih, h0]
    · rfl
  | [], _ :: _, _, hl, _ => by simp at hl
  | _ :: _, [], _, hl, _ => by simp at hl
theorem cmpI_self (a : Int) : cmpI a a = 0 := (cmpI_zero a a).2 rfl
theorem cmpS_self (a : ByteArray) : cmpS a a = 0 := (cmpS_zero a a).2 rfl
theorem cmp_ord : ∀ (d : Nat) (a b : Tm), dle d a → a.shp → b.shp → cmpT d a b = ordT d a b
  | 0, a, b, h, _, _ => h.elim
  | d + 1, a, b, h, sa, sb => by
    have ta := ((Tm.shp_iff a).1 sa).1
    have tb := ((Tm.shp_iff b).1 sb).1
    by_cases hk : a.kind = b.kind
    case neg =>
      have h1 : cmpI a.kind b.kind ≠ 0 := fun e => hk ((cmpI_zero _ _).1 e)
      rw [ordT, if_pos hk, cmpT]
      simp [orL, h1]
    have hk' : ¬ a.kind ≠ b.kind := by simpa using hk
    have h1 : cmpI a.kind b.kind = 0 := (cmpI_zero _ _).2 hk
    rcases ta with ⟨k1, _, n1, l1⟩ | ⟨k1, _, n1, l1⟩ | ⟨k1, _, n1, l1⟩
    · rw [ordT, if_neg hk', if_pos k1, cmpT]
      have k2 : b.kind = 1 := by omega
      rcases tb with ⟨_, _, n2, l2⟩ | ⟨e, _⟩ | ⟨e, _⟩
      · rw [n1, n2, l1, l2, h1]
        simp only [orL, cmpI_self, List.length_nil, cmpL]
        by_cases hz : cmpS a.name b.name = 0 <;> simp [hz]
      · omega
      · omega
    · rw [ordT, if_neg hk', if_neg (show ¬ a.kind = 1 by omega), if_pos k1, cmpT]
      rcases tb with ⟨e, _⟩ | ⟨_, _, n2, l2⟩ | ⟨e, _⟩
      · omega
      · have e1 : a.name = b.name := by
          have x1 : a.name = ⟨#[]⟩ := ByteArray.ext (Array.eq_empty_of_size_eq_zero n1)
          have x2 : b.name = ⟨#[]⟩ := ByteArray.ext (Array.eq_empty_of_size_eq_zero n2)
          rw [x1, x2]
        rw [l1, l2, h1, e1]
        simp only [orL, cmpI_self, cmpS_self, List.length_nil, cmpL]
        by_cases hz : cmpI a.n b.n = 0 <;> simp [hz]
      · omega
    · rw [ordT, if_neg hk', if_neg (show ¬ a.kind = 1 by omega), if_neg (show ¬ a.kind = 2 by omega), cmpT]
      rcases tb with ⟨e, _⟩ | ⟨e, _⟩ | ⟨_, _, n2, l2⟩
      · omega
      · omega
      · have ih : ∀ u ∈ a.args, ∀ v ∈ b.args, cmpT d u v = ordT d u v := fun u hu v hv => cmp_ord d u v (h u hu) (sa.arg hu) (sb.arg hv)
        rw [n1, n2, h1]
        by_cases hl : cmpI a.args.length b.args.length = 0
        · have hlen : a.args.length = b.args.length := by have := (cmpI_zero _ _).1 hl; omega
          rw [if_pos hl, ordL_cmpL (cmpT d) (ordT d) a.args b.args _ hlen ih]
          by_cases hn : cmpS a.name b.name = 0
          · simp [orL, cmpI_self, hl, hn]
          · simp [orL, cmpI_self, hl, hn]
        · rw [if_neg hl]
          have : ordL (ordT d) (cmpI a.args.length b.args.length) a.args b.args = cmpI a.args.length b.args.length := by
            cases ha : a.args <;> cases hb : b.args <;> simp only [ordL]
            rw [ha, hb] at hl
            rw [if_neg hl]
          rw [this]
          simp [orL, cmpI_self, hl]
end Go.Proofs.YtdecgkhdbfgldaaGreat

set_option linter.unusedVariables false
set_option linter.unusedSimpArgs false
set_option maxRecDepth 8000
namespace Go.Proofs.YtdecgkhdbfgldaaGreat
open Go
theorem fact_parts {f : Ft} (h : factB f = true) : mayT f.t = true ∧ f.t.shp ∧ dle 5 f.t := ⟨factB_may h, may_shp (factB_may h), may_dle (factB_may h)⟩
theorem ord_cmp {a b : Ft} (ha : factB a = true) (hb : factB b = true) : ordF a b = cmpF a b := by
  rw [ordF, cmpF, cmp_ord 5 a.t b.t (fact_parts ha).2.2 (fact_parts ha).2.1 (fact_parts hb).2.1]
theorem cmpF_zero {a b : Ft} (hd : dle 5 a.t) : cmpF a b = 0 ↔ eqF a b = true := by
  have h1 := cmpT_zero 5 a.t b.t hd
  have h2 := cmpI_zero a.fr b.fr
  have h3 := cmpI_zero a.to b.to
  simp only [cmpF, orL, eqF, Bool.and_eq_true, beq_iff_eq, ← h1, ← h2, ← h3]
  split
  · rename_i e1
    split
    · rename_i e2
      split
      · rename_i e3; simp [e1, e2, e3]
      · rename_i e3; simp [e1, e2, e3]
    · rename_i e2; simp [e1, e2]
  · rename_i e1; simp [e1]
end Go.Proofs.YtdecgkhdbfgldaaGreat

set_option linter.unusedVariables false
set_option linter.unusedSimpArgs false
namespace Go.Proofs.YtdecgkhdbfgldaaGreat
open Go
structure TP {α : Type} (f : α → α → Int) : Prop where
  anti : ∀ a b, f b a = - f a b
  tr : ∀ a b c, f a b ≤ 0 → f b c ≤ 0 → f a c ≤ 0
section
variable {α : Type} {f g : α → α → Int}
theorem TP.self (h : TP f) (a : α) : f a a = 0 := by have := h.anti a a; omega
theorem TP.lt1 (h : TP f) {a b c : α} (h1 : f a b < 0) (h2 : f b c ≤ 0) : f a c < 0 := by
  have h3 := h.tr a b c (by omega) h2
  by_cases e : f a c = 0
  · have h4 : f c a ≤ 0 := by rw [h.anti a c]; omega
    have h5 := h.tr b c a h2 h4
    have := h.anti a b; omega
  · omega
theorem TP.lt2 (h : TP f) {a b c : α} (h1 : f a b ≤ 0) (h2 : f b c < 0) : f a c < 0 := by
  have h3 := h.tr a b c h1 (by omega)
  by_cases e : f a c = 0
  · have h4 : f c a ≤ 0 := by rw [h.anti a c]; omega
    have h5 := h.tr c a b h4 h1
    have := h.anti b c; omega
  · omega
theorem TP.eq (h : TP f) {a b c : α} (h1 : f a b = 0) (h2 : f b c = 0) : f a c = 0 := by
  have h3 := h.tr a b c (by omega) (by omega)
  have h4 := h.tr c b a (by rw [h.anti b c]; omega) (by rw [h.anti a b]; omega)
  have := h.anti a c; omega
theorem TP.lex (hf : TP f) (hg : TP g) : TP (fun a b => if f a b = 0 then g a b else f a b) := by
  refine ⟨fun a b => ?_, fun a b c h1 h2 => ?_⟩
  · have ha := hf.anti a b
    show (if f b a = 0 then g b a else f b a) = - (if f a b = 0 then g a b else f a b)
    by_cases e : f a b = 0
    · rw [if_pos e, if_pos (by omega)]; exact hg.anti a b
    · rw [if_neg e, if_neg (by omega)]; exact ha
  · replace h1 : (if f a b = 0 then g a b else f a b) ≤ 0 := h1
    replace h2 : (if f b c = 0 then g b c else f b c) ≤ 0 := h2
    show (if f a c = 0 then g a c else f a c) ≤ 0
    by_cases e1 : f a b = 0
    · rw [if_pos e1] at h1
      by_cases e2 : f b c = 0
      · rw [if_pos e2] at h2
        rw [if_pos (hf.eq e1 e2)]
        exact hg.tr a b c h1 h2
      · rw [if_neg e2] at h2
        have := hf.lt2 (a := a) (b := b) (c := c) (by omega) (by omega)
        rw [if_neg (by omega)]; omega
    · rw [if_neg e1] at h1
      have h2' : f b c ≤ 0 := by
        by_cases e2 : f b c = 0
        · omega
        · rw [if_neg e2] at h2; exact h2
      have := hf.lt1 (a := a) (b := b) (c := c) (by omega) h2'
      rw [if_neg (by omega)]; omega
theorem TP.zero : TP (fun _ _ : α => 0) := ⟨fun _ _ => rfl, fun _ _ _ _ _ => Int.le_refl _⟩
theorem TP.map {β : Type} (h : TP f) (m : β → α) : TP (fun a b => f (m a) (m b)) := ⟨fun _ _ => h.anti _ _, fun _ _ _ h1 h2 => h.tr _ _ _ h1 h2⟩
end
theorem TP.int : TP cmpI := by
  refine ⟨fun a b => ?_, fun a b c h1 h2 => ?_⟩
  · simp only [cmpI]; split <;> (try split) <;> (try split) <;> omega
  · simp only [cmpI] at h1 h2 ⊢
    split at h1 <;> split at h2 <;> (try split at h1) <;> (try split at h2) <;> (try split) <;> (try split) <;> omega
theorem cb_anti : ∀ a b : List UInt8, Lib.compareBytes b a = - Lib.compareBytes a b
  | [], [] => rfl
  | [], _ :: _ => rfl
  | _ :: _, [] => rfl
  | x :: a, y :: b => by
    have ih := cb_anti a b
    simp only [Lib.compareBytes, UInt8.lt_iff_toNat_lt]
    by_cases h1 : x.toNat < y.toNat
    · rw [if_neg (show ¬ y.toNat < x.toNat by omega), if_pos h1, if_pos h1]; rfl
    · by_cases h2 : y.toNat < x.toNat
      · rw [if_pos h2, if_neg h1, if_pos h2]
      · rw [if_neg h2, if_neg h1, if_neg h1, if_neg h2]; exact ih
theorem cb_tr : ∀ a b c : List UInt8, Lib.compareBytes a b ≤ 0 → Lib.compareBytes b c ≤ 0 → Lib.compareBytes a c ≤ 0
  | [], [], [], _, _ => by simp [Lib.compareBytes]
  | [], _, _ :: _, _, _ => by simp [Lib.compareBytes]
  | [], _ :: _, [], _, h => by simp [Lib.compareBytes]
  | _ :: _, [], _, h, _ => by simp [Lib.compareBytes] at h
  | _ :: _, _ :: _, [], _, h => by simp [Lib.compareBytes] at h
  | x :: a, y :: b, z :: c, h1, h2 => by
    have ih := cb_tr a b c
    simp only [Lib.compareBytes, UInt8.lt_iff_toNat_lt] at h1 h2 ⊢
    by_cases h3 : x.toNat < z.toNat
    · rw [if_pos h3]; decide
    · rw [if_neg h3]
      have e1 : ¬ y.toNat < x.toNat := fun h => by
        rw [if_neg (by omega), if_pos h] at h1; exact absurd h1 (by decide)
      have e2 : ¬ z.toNat < y.toNat := fun h => by
        rw [if_neg (by omega), if_pos h] at h2; exact absurd h2 (by decide)
      rw [if_neg (by omega)]
      rw [if_neg (by omega), if_neg e1] at h1
      rw [if_neg (by omega), if_neg e2] at h2
      exact ih h1 h2
theorem TP.str : TP cmpS := ⟨fun a b => cb_anti _ _, fun a b c h1 h2 => cb_tr _ _ _ h1 h2⟩
theorem cmpL_anti {f : Tm → Tm → Int} (h : TP f) : ∀ l m : List Tm, cmpL f m l = - cmpL f l m
  | [], [] => rfl
  | [], _ :: _ => rfl
  | _ :: _, [] => rfl
  | a :: l, b :: m => by
    have ih := cmpL_anti h l m
    have := h.anti a b
    simp only [cmpL]
    by_cases e : f a b = 0
    · rw [if_pos e, if_pos (by omega)]; exact ih
    · rw [if_neg e, if_neg (by omega)]; exact this
theorem cmpL_tr {f : Tm → Tm → Int} (h : TP f) : ∀ l m n : List Tm, cmpL f l m ≤ 0 → cmpL f m n ≤ 0 → cmpL f l n ≤ 0
  | [], [], [], _, _ => by simp [cmpL]
  | [], _, _ :: _, _, _ => by simp [cmpL]
  | [], _ :: _, [], _, h => by simp [cmpL]
  | _ :: _, [], _, h, _ => by simp [cmpL] at h
  | _ :: _, _ :: _, [], _, h => by simp [cmpL] at h
  | a :: l, b :: m, c :: n, h1, h2 => by
    have ih := cmpL_tr h l m n
    simp only [cmpL] at h1 h2 ⊢
    by_cases e1 : f a b = 0
    · rw [if_pos e1] at h1
      by_cases e2 : f b c = 0
      · rw [if_pos e2] at h2
        rw [if_pos (h.eq e1 e2)]
        exact ih h1 h2
      · rw [if_neg e2] at h2
        have := h.lt2 (a := a) (b := b) (c := c) (by omega) (by omega)
        rw [if_neg (by omega)]; omega
    · rw [if_neg e1] at h1
      have h2' : f b c ≤ 0 := by
        by_cases e2 : f b c = 0
        · omega
        · rw [if_neg e2] at h2; exact h2
      have := h.lt1 (a := a) (b := b) (c := c) (by omega) h2'
      rw [if_neg (by omega)]; omega
theorem TP.list {f : Tm → Tm → Int} (h : TP f) : TP (cmpL f) := ⟨cmpL_anti h, cmpL_tr h⟩
theorem TP.tm : ∀ d : Nat, TP (cmpT d)
  | 0 => by
    have : cmpT 0 = fun _ _ => 0 := by funext a b; rfl
    rw [this]; exact TP.zero
  | d + 1 => by
    have h1 : TP (fun a b : Tm => orL [cmpI a.kind b.kind, cmpI a.n b.n, cmpI a.args.length b.args.length, cmpS a.name b.name]) :=
      (TP.int.map Tm.kind).lex ((TP.int.map Tm.n).lex ((TP.int.map (fun a : Tm => (a.args.length : Int))).lex ((TP.str.map Tm.name).lex TP.zero)))
    have h2 : TP (fun a b : Tm => cmpL (cmpT d) a.args b.args) := (TP.list (TP.tm d)).map Tm.args
    exact h1.lex h2
theorem TP.ft : TP cmpF := ((TP.tm 5).map Ft.t).lex ((TP.int.map Ft.fr).lex ((TP.int.map Ft.to).lex TP.zero))
theorem cmpF_eq {a b : Ft} (hd : dle 5 a.t) : cmpF a b = 0 ↔ a = b := by
  rw [cmpF_zero hd, eqF]
  simp only [Bool.and_eq_true, beq_iff_eq, eqT_iff 5 a.t b.t hd]
  cases a; cases b; simp
def srtF (l : List Ft) : List Ft := l.mergeSort fun a b => decide (cmpF a b ≤ 0)
theorem srtF_perm (l : List Ft) : (srtF l).Perm l := List.mergeSort_perm _ _
theorem srtF_sorted (l : List Ft) : (srtF l).Pairwise fun a b => cmpF a b ≤ 0 := by
  have := List.pairwise_mergeSort (le := fun a b => decide (cmpF a b ≤ 0)) (fun a b c h1 h2 => by
    simp only [decide_eq_true_eq] at h1 h2 ⊢; exact TP.ft.tr a b c h1 h2) (fun a b => by
    have := TP.ft.anti a b
    by_cases h : cmpF a b ≤ 0
    · simp [h]
    · simp only [Bool.or_eq_true, decide_eq_true_eq]; right; omega) l
  exact this.imp (by simp)
theorem srtF_uniq {l m : List Ft} (hd : ∀ a ∈ l, dle 5 a.t) (hp : m.Perm l) (hs : m.Pairwise fun x y => ¬ cmpF y x < 0) : m = srtF l := by
  refine List.Perm.eq_of_pairwise (le := fun a b => cmpF a b ≤ 0) (fun a b ha hb h1 h2 => ?_) (hs.imp fun {x y} h => ?_) (srtF_sorted l) (hp.trans (srtF_perm l).symm)
  · have := TP.ft.anti a b
    exact (cmpF_eq (hd a (hp.mem_iff.1 ha))).1 (by omega)
  · have := TP.ft.anti x y; omega
theorem sameId_eq {a b : Ft} (ha : factB a = true) (hb : factB b = true) (h : sameId a b = true) : a = b := by
  simp only [sameId, Bool.and_eq_true, decide_eq_true_eq] at h
  obtain ⟨⟨h1, h2⟩, h3⟩ := h
  have h4 : keyL 5 a.t ++ [] = keyL 5 b.t ++ [] := by
    simp only [List.append_nil]
    have := congrArg (fun s : ByteArray => s.data.toList) h1
    simpa [keyS] using this
  have h5 := (keyL_inj 5 a.t b.t (fact_parts ha).2.2 (fact_parts hb).2.2 (fact_parts ha).2.1 (fact_parts hb).2.1 [] [] h4).1
  cases a; cases b; simp only at h5 h2 h3; subst h5 h2 h3; rfl
theorem sameId_self (a : Ft) : sameId a a = true := by simp [sameId]
theorem listB_nd {l : List Kp} (h : listB l = true) : (l.map Kp.f).Nodup := by
  obtain ⟨_, hm⟩ := listB_may h
  simp only [listB, Bool.and_eq_true, decide_eq_true_eq, List.all_eq_true, List.mem_range] at h
  rw [List.Nodup, List.pairwise_iff_getElem]
  intro i j hi hj hij
  simp only [List.length_map] at hi hj
  have hx : l[j]? = some l[j] := List.getElem?_eq_getElem hj
  have h1 := h.2 j hj
  rw [stepL_get hx] at h1
  simp only [Bool.and_eq_true, Bool.not_eq_true', List.any_eq_false] at h1
  have h2 := h1.2 l[i] (List.mem_of_getElem? (i := i) (by rw [List.getElem?_take, if_pos hij]; exact List.getElem?_eq_getElem hi))
  intro e
  simp only [List.getElem_map] at e
  rw [e, sameId_self] at h2
  exact h2 rfl
theorem addE_zero {l : List Kp} {n : Int} {f : Ft} (h : addE l n f = 0) : listB l = true ∧ factB f = true ∧ 0 ≤ n ∧ n ≤ 1073741824 ∧ (l.length = 0 ∨ lastS l < n) ∧ atN f l < 0 ∧ l.length < 300 := by
  rw [addE] at h
  split at h
  · cases h
  · rename_i h1
    split at h
    · cases h
    · rename_i h2
      split at h
      · cases h
      · rename_i h3
        have h1 : addC l n f = true := by simpa using h1
        simp only [addC, Bool.and_eq_true, Bool.or_eq_true, decide_eq_true_eq] at h1
        exact ⟨h1.1.1.1.1, h1.1.1.1.2, h1.1.1.2, h1.1.2, h1.2, by omega, by omega⟩
end Go.Proofs.YtdecgkhdbfgldaaGreat
