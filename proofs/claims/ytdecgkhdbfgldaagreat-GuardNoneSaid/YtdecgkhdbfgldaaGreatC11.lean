/- Part 11 of the proof: Ia, Gq. -/
import Derived.Test.YtdecgkhdbfgldaaGreatC10
set_option linter.unusedVariables false
set_option linter.unusedSimpArgs false
set_option maxRecDepth 8000
namespace Go.Proofs.YtdecgkhdbfgldaaGreat
open Go
def dpA (f : Tm → Int) (l : List Tm) : Int := l.foldl (fun n u => max n (f u)) 0
def dpT : Nat → Tm → Int
  | 0, _ => 0
  | d + 1, t => dpA (dpT d) t.args + 1
theorem dpA_snoc (f : Tm → Int) {l : List Tm} {k : Nat} {u : Tm} (hu : l[k]? = some u) : dpA f (l.take (k + 1)) = max (dpA f (l.take k)) (f u) := by
  rw [take_snoc hu, dpA, List.foldl_append]; rfl
theorem foldmax_le (f : Tm → Int) (m : Int) : ∀ (l : List Tm) (n : Int), 0 ≤ n → n ≤ m → (∀ u ∈ l, 0 ≤ f u ∧ f u ≤ m) → 0 ≤ l.foldl (fun n u => max n (f u)) n ∧ l.foldl (fun n u => max n (f u)) n ≤ m
  | [], n, h0, hn, _ => ⟨h0, hn⟩
  | a :: l, n, h0, hn, h => by
    have h1 := h a (by simp)
    exact foldmax_le f m l (max n (f a)) (by omega) (by omega) fun u hu => h u (by simp [hu])
theorem dpT_range : ∀ (d : Nat) (t : Tm), 0 ≤ dpT d t ∧ dpT d t ≤ d
  | 0, t => by simp [dpT]
  | d + 1, t => by
    have := foldmax_le (dpT d) d t.args 0 (by omega) (by omega) fun u _ => dpT_range d u
    simp only [dpT, dpA]; omega
theorem dpA_range (d : Nat) (l : List Tm) : 0 ≤ dpA (dpT d) l ∧ dpA (dpT d) l ≤ d := foldmax_le (dpT d) d l 0 (by omega) (by omega) fun u _ => dpT_range d u
theorem deep_ok : ∀ (d : Nat) (t : Tm), d ≤ 100 → dle d t → t.wf → PF 200 [tmA false t] (iv (dpT d t))
  | 0, t, _, h, _ => h.elim
  | d + 1, t, h9, h, ht => by
    have hlen := tmDs_length t.args
    have hal := ht.2.2.2.1
    refine AC_intro Tryz.func200 rfl Tryz.ntmps200 (Nat.le_of_ble_eq_true rfl) fun c hL hQ hDD => ?_; refine awp_seq ?_; refine awp_region ?_; refine awps_stp1 rfl rfl (by decide) (stp_box 1 rfl rfl rfl) rfl ?_; refine awps_stp0 rfl rfl (by decide) (stp_move (.inr rfl) rfl) ?_; refine awps_nil ?_; refine thenQ_nil ?_; refine awp_seq ?_; refine awp_region ?_; refine awps_stp0 rfl rfl (by decide) (stp_move (.inr rfl) rfl) ?_; refine awps_nil ?_; refine thenQ_nil ?_; refine awp_seq ?_; refine awp_seq ?_; refine awp_region ?_
    refine awps_stp0 rfl rfl (by decide) (stp_fieldAddr rfl fo_api_Term_3 rfl) ?_; refine awps_stp0 rfl rfl (by decide) (stp_load rfl tf_S_api_Term rfl rfl rfl rfl rfl) ?_; refine awps_stp0 rfl rfl (by decide) (stp_len_dat rfl sl_S_api_Term rfl) ?_
    refine awps_stp0 rfl rfl (by decide) (stp_move (.inl rfl) rfl) ?_; refine awps_nil ?_; refine thenQ_nil ?_; refine awp_block ?_; refine awp_while (t.args.length) (fun k => k ≤ t.args.length) (fun k => ⟨[(3, iv (dpA (dpT d) (t.args.take k))), (7, .dat false 4 (tmDs t.args)), (8, iv (tmDs t.args).length), (9, iv (k : Int))], []⟩) (by omega) ?_ (fun k hk hp => ?_)
    · exact sub_re (SubT.cons (lk_eq rfl (by first | rfl | simp)) (SubT.cons (lk_eq rfl (by first | rfl | simp)) (SubT.cons (lk_eq rfl (by first | rfl | simp)) (SubT.cons (lk_eq rfl (by first | rfl | simp)) (SubT.nil))))) (SubO.nil) rfl rfl (noL' (noL hL) _)
    have hdr := dpA_range d (t.args.take k)
    refine awp_seq ?_; refine awp_region ?_; refine awps_stp0 rfl rfl (by decide) (stp_binI rfl rfl rfl rfl) ?_; refine awps_nil ?_; refine thenQ_nil ?_; refine awp_seq ?_; refine awp_cond rfl (fun c0 => ?_) (fun c0 => ?_)
    · try simp only [↓cqA, cqB] at c0
      obtain ⟨u, hu⟩ := get_of_lt (l := t.args) (k := k) (by omega)
      have hum := List.mem_of_getElem? hu
      have hmx := dpA_snoc (dpT d) hu
      refine awp_skip ?_; refine thenQ_nil ?_; refine awp_seq ?_; refine awp_block ?_; refine awp_seq ?_; refine awp_region ?_; refine awps_stp0 rfl rfl (by decide) (stp_indexAddr rfl sl_S_api_Term rfl rfl (by omega) (tmDs_get hu)) ?_; refine awps_stp0 rfl rfl (by decide) (stp_load_elpa rfl tf_api_Term rfl rfl) ?_
      refine awps_stp1 rfl rfl (by decide) (stp_alloc 5 rfl zv_api_Term rfl) rfl ?_; refine awps_store rfl rfl rfl tf_api_Term rfl rfl rfl rfl rfl rfl rfl rfl rfl ?_; refine awps_nil ?_; refine thenQ_nil ?_; refine awp_region ?_; refine awps_stp0 rfl rfl (by decide) (stp_move (.inl rfl) rfl) ?_; refine awps_stp0 rfl rfl (by decide) (stp_load_all rfl tf_api_Term rfl rfl rfl rfl) ?_
      refine awps_call (avs := [_]) true rfl rfl rfl (by decide) en_term_deep rfl rfl (deep_ok d u (by omega) (h u hum) (Tm.wfs_mem ht.2.2.2.2 hum)) rfl rfl ?_; refine awps_stp0 rfl rfl (by decide) (stp_max rfl rfl rfl) ?_; refine awps_stp0 rfl rfl (by decide) (stp_move (.inr rfl) rfl) ?_; refine awps_nil ?_; refine inQ_nil ?_; refine thenQ_nil ?_; refine awp_region ?_; refine awps_stp0 rfl rfl (by decide) (stp_add rfl rfl rfl (by omega)) ?_; refine awps_stp0 rfl rfl (by decide) (stp_move (.inl rfl) rfl) ?_; refine awps_nil ?_; refine thenQ_nil ?_; refine ⟨?_, ?_, ?_⟩
      · skip
        omega
      · skip
        omega
      exact sub_re (SubT.cons (lk_eq rfl (by exact int_imm (by rw [hmx]; split <;> omega))) (SubT.cons (lk_eq rfl (by first | rfl | simp)) (SubT.cons (lk_eq rfl (by first | rfl | simp)) (SubT.cons (lk_eq rfl (by first | rfl | simp)) (SubT.nil))))) (SubO.nil) rfl rfl (noL' (noL hL) _)
    try simp only [↓cqA, cqB] at c0
    refine awp_exit ?_; refine thenQ_exit (thenQ_exit (inQ_hit ?_)); refine thenQ_nil ?_; refine awp_seq ?_; refine awp_region ?_; refine awps_stp0 rfl rfl (by decide) (stp_move (.inl rfl) rfl) ?_; refine awps_stp0 rfl rfl (by decide) (stp_add rfl rfl rfl (by omega)) ?_; refine awps_stp0 rfl rfl (by decide) (stp_move (.inr rfl) rfl) ?_; refine awps_nil ?_; refine thenQ_nil ?_; refine awp_ret ?_
    -- leaf 0F
    refine ret0 (noL hL) (.inl rfl) (resAs_tmp rfl (resAs_nil)) ?_ ?_
    · rfl
    refine ⟨int_w ?_, rfl⟩
    rw [List.take_of_length_le (by omega)]; rfl
def flatB (t : Tm) : Bool := decide (t.kind = 3) && decide (dpT 5 t ≤ 2)
theorem Flat_ok (t : Tm) (h : dle 5 t) (ht : t.wf) : PF 138 [tmA false t] (bv (flatB t)) := by
  refine AC_intro Tryz.func138 rfl Tryz.ntmps138 (Nat.le_of_ble_eq_true rfl) fun c hL hQ hDD => ?_; refine awp_seq ?_; refine awp_region ?_; refine awps_stp1 rfl rfl (by decide) (stp_box 1 rfl rfl rfl) rfl ?_; refine awps_stp0 rfl rfl (by decide) (stp_move (.inr rfl) rfl) ?_; refine awps_nil ?_; refine thenQ_nil ?_; refine awp_seq ?_; refine awp_region ?_; refine awps_stp0 rfl rfl (by decide) (stp_fieldAddr rfl fo_api_Term_0 rfl) ?_; refine awps_stp0 rfl rfl (by decide) (stp_load rfl tf_int rfl rfl rfl rfl rfl) ?_
  refine awps_stp0 rfl rfl (by decide) (stp_binI rfl rfl rfl rfl) ?_; refine awps_stp0 rfl rfl (by decide) (stp_move (.inl rfl) rfl) ?_; refine awps_split 6 rfl (fun g6 => ?_) (fun g6 => ?_)
  · try simp only [↓cqA, cqB] at g6
    refine awps_g0 rfl rfl rfl (by decide) rfl (by decide) (stp_load_all rfl tf_api_Term rfl rfl rfl rfl) ?_; refine awps_g0 rfl rfl rfl (by decide) rfl (by decide) (stp_call (avs := [_]) true rfl en_term_deep rfl rfl (deep_ok 5 t (by omega) h ht) (fun _ => rfl) rfl) ?_; refine awps_g0 rfl rfl rfl (by decide) rfl (by decide) (stp_binI rfl rfl rfl rfl) ?_; refine awps_stp0 rfl rfl (by decide) (stp_pick rfl rfl rfl) ?_; refine awps_stp0 rfl rfl (by decide) (stp_move (.inr rfl) rfl) ?_; refine awps_nil ?_; refine thenQ_nil ?_; refine awp_ret ?_
    -- leaf g6T
    refine ret0 (noL hL) (.inl rfl) (resAs_tmp rfl (resAs_nil)) ?_ ?_
    · rfl
    refine ⟨bool_w ?_, rfl⟩
    simp_all [flatB]
  try simp only [↓cqA, cqB] at g6
  refine awps_gs rfl rfl rfl rfl (by decide) rfl (by decide) ?_; refine awps_gs rfl rfl rfl rfl (by decide) rfl (by decide) ?_; refine awps_gs rfl rfl rfl rfl (by decide) rfl (by decide) ?_; refine awps_stp0 rfl rfl (by decide) (stp_pick rfl rfl rfl) ?_; refine awps_stp0 rfl rfl (by decide) (stp_move (.inr rfl) rfl) ?_; refine awps_nil ?_; refine thenQ_nil ?_; refine awp_ret ?_
  -- leaf g6F
  refine ret0 (noL hL) (.inl rfl) (resAs_tmp rfl (resAs_nil)) ?_ ?_
  · rfl
  refine ⟨bool_w ?_, rfl⟩
  simp_all [flatB]
theorem showAtom_ok (t : Tm) (ht : t.wf) : PF 166 [tmA false t] (bv (mayT t && flatB t)) := by
  refine AC_intro Tryz.func166 rfl Tryz.ntmps166 (Nat.le_of_ble_eq_true rfl) fun c hL hQ hDD => ?_; refine awp_seq ?_; refine awp_region ?_; refine awps_stp1 rfl rfl (by decide) (stp_box 1 rfl rfl rfl) rfl ?_; refine awps_stp0 rfl rfl (by decide) (stp_move (.inr rfl) rfl) ?_; refine awps_nil ?_; refine thenQ_nil ?_; refine awp_seq ?_; refine awp_region ?_; refine awps_stp0 rfl rfl (by decide) (stp_load_all rfl tf_api_Term rfl rfl rfl rfl) ?_
  refine awps_call (avs := [_]) true rfl rfl rfl (by decide) en_term_May rfl rfl (May_ok t ht) rfl rfl ?_; refine awps_stp0 rfl rfl (by decide) (stp_move (.inl rfl) rfl) ?_; refine awps_split 5 rfl (fun g5 => ?_) (fun g5 => ?_)
  · try simp only [↓cqA, cqB] at g5
    refine awps_g0 rfl rfl rfl (by decide) rfl (by decide) (stp_load_all rfl tf_api_Term rfl rfl rfl rfl) ?_; refine awps_g0 rfl rfl rfl (by decide) rfl (by decide) (stp_call (avs := [_]) true rfl en_term_Flat rfl rfl (Flat_ok t (mayT_dle (by assumption)).1 ht) (fun _ => rfl) rfl) ?_; refine awps_stp0 rfl rfl (by decide) (stp_pick rfl rfl rfl) ?_; refine awps_stp0 rfl rfl (by decide) (stp_move (.inr rfl) rfl) ?_; refine awps_nil ?_; refine thenQ_nil ?_; refine awp_ret ?_
    -- leaf g5T
    refine ret0 (noL hL) (.inl rfl) (resAs_tmp rfl (resAs_nil)) ?_ ?_
    · rfl
    refine ⟨bool_w ?_, rfl⟩
    simp_all
  try simp only [↓cqA, cqB] at g5
  refine awps_gs rfl rfl rfl rfl (by decide) rfl (by decide) ?_; refine awps_gs rfl rfl rfl rfl (by decide) rfl (by decide) ?_; refine awps_stp0 rfl rfl (by decide) (stp_pick rfl rfl rfl) ?_; refine awps_stp0 rfl rfl (by decide) (stp_move (.inr rfl) rfl) ?_; refine awps_nil ?_; refine thenQ_nil ?_; refine awp_ret ?_
  -- leaf g5F
  refine ret0 (noL hL) (.inl rfl) (resAs_tmp rfl (resAs_nil)) ?_ ?_
  · rfl
  refine ⟨bool_w ?_, rfl⟩
  simp_all
def noneB (t : Tm) : Bool := decide (t.kind = 0) && decide (t.name = ⟨#[]⟩) && decide (t.n = 0) && decide (t.args.length = 0)
theorem showNone_ok (t : Tm) (ht : t.wf) : PF 167 [tmA false t] (bv (noneB t)) := by
  have hlen := tmDs_length t.args
  refine AC_intro Tryz.func167 rfl Tryz.ntmps167 (Nat.le_of_ble_eq_true rfl) fun c hL hQ hDD => ?_; refine awp_seq ?_; refine awp_region ?_; refine awps_stp1 rfl rfl (by decide) (stp_box 1 rfl rfl rfl) rfl ?_; refine awps_stp0 rfl rfl (by decide) (stp_move (.inr rfl) rfl) ?_; refine awps_nil ?_; refine thenQ_nil ?_; refine awp_seq ?_; refine awp_region ?_; refine awps_stp0 rfl rfl (by decide) (stp_fieldAddr rfl fo_api_Term_0 rfl) ?_; refine awps_stp0 rfl rfl (by decide) (stp_load rfl tf_int rfl rfl rfl rfl rfl) ?_
  refine awps_stp0 rfl rfl (by decide) (stp_binI rfl rfl rfl rfl) ?_; refine awps_stp0 rfl rfl (by decide) (stp_move (.inl rfl) rfl) ?_; refine awps_split 6 rfl (fun g6 => ?_) (fun g6 => ?_)
  · try simp only [↓cqA, cqB] at g6
    refine awps_g0 rfl rfl rfl (by decide) rfl (by decide) (stp_fieldAddr rfl fo_api_Term_1 rfl) ?_; refine awps_g0 rfl rfl rfl (by decide) rfl (by decide) (stp_load rfl tf_string rfl rfl rfl rfl rfl) ?_; refine awps_g0 rfl rfl rfl (by decide) rfl (by decide) (stp_binS rfl rfl rfl rfl) ?_; refine awps_stp0 rfl rfl (by decide) (stp_pick rfl rfl rfl) ?_; refine awps_stp0 rfl rfl (by decide) (stp_move (.inl rfl) rfl) ?_; refine awps_split 11 rfl (fun g11 => ?_) (fun g11 => ?_)
    · try simp only [↓cqA, cqB] at g11
      refine awps_g0 rfl rfl rfl (by decide) rfl (by decide) (stp_fieldAddr rfl fo_api_Term_2 rfl) ?_; refine awps_g0 rfl rfl rfl (by decide) rfl (by decide) (stp_load rfl tf_int rfl rfl rfl rfl rfl) ?_; refine awps_g0 rfl rfl rfl (by decide) rfl (by decide) (stp_binI rfl rfl rfl rfl) ?_; refine awps_stp0 rfl rfl (by decide) (stp_pick rfl rfl rfl) ?_; refine awps_stp0 rfl rfl (by decide) (stp_move (.inl rfl) rfl) ?_; refine awps_split 16 rfl (fun g16 => ?_) (fun g16 => ?_)
      · try simp only [↓cqA, cqB] at g16
        refine awps_g0 rfl rfl rfl (by decide) rfl (by decide) (stp_fieldAddr rfl fo_api_Term_3 rfl) ?_; refine awps_g0 rfl rfl rfl (by decide) rfl (by decide) (stp_load rfl tf_S_api_Term rfl rfl rfl rfl rfl) ?_; refine awps_g0 rfl rfl rfl (by decide) rfl (by decide) (stp_len_dat rfl sl_S_api_Term rfl) ?_; refine awps_g0 rfl rfl rfl (by decide) rfl (by decide) (stp_binI rfl rfl rfl rfl) ?_; refine awps_stp0 rfl rfl (by decide) (stp_pick rfl rfl rfl) ?_; refine awps_stp0 rfl rfl (by decide) (stp_move (.inr rfl) rfl) ?_; refine awps_nil ?_; refine thenQ_nil ?_; refine awp_ret ?_
        -- leaf g6Tg11Tg16T
        refine ret0 (noL hL) (.inl rfl) (resAs_tmp rfl (resAs_nil)) ?_ ?_
        · rfl
        refine ⟨bool_w ?_, rfl⟩
        first | (simp_all [noneB]; done) | (simp_all [noneB]; cases t.args <;> simp <;> omega)
      try simp only [↓cqA, cqB] at g16
      refine awps_gs rfl rfl rfl rfl (by decide) rfl (by decide) ?_; refine awps_gs rfl rfl rfl rfl (by decide) rfl (by decide) ?_; refine awps_gs rfl rfl rfl rfl (by decide) rfl (by decide) ?_; refine awps_gs rfl rfl rfl rfl (by decide) rfl (by decide) ?_; refine awps_stp0 rfl rfl (by decide) (stp_pick rfl rfl rfl) ?_; refine awps_stp0 rfl rfl (by decide) (stp_move (.inr rfl) rfl) ?_; refine awps_nil ?_; refine thenQ_nil ?_; refine awp_ret ?_
      -- leaf g6Tg11Tg16F
      refine ret0 (noL hL) (.inl rfl) (resAs_tmp rfl (resAs_nil)) ?_ ?_
      · rfl
      refine ⟨bool_w ?_, rfl⟩
      first | (simp_all [noneB]; done) | (simp_all [noneB]; cases t.args <;> simp <;> omega)
    try simp only [↓cqA, cqB] at g11
    refine awps_gs rfl rfl rfl rfl (by decide) rfl (by decide) ?_; refine awps_gs rfl rfl rfl rfl (by decide) rfl (by decide) ?_; refine awps_gs rfl rfl rfl rfl (by decide) rfl (by decide) ?_; refine awps_stp0 rfl rfl (by decide) (stp_pick rfl rfl rfl) ?_; refine awps_stp0 rfl rfl (by decide) (stp_move (.inl rfl) rfl) ?_; refine awps_gs rfl rfl rfl rfl (by decide) rfl (by decide) ?_
    refine awps_gs rfl rfl rfl rfl (by decide) rfl (by decide) ?_; refine awps_gs rfl rfl rfl rfl (by decide) rfl (by decide) ?_; refine awps_gs rfl rfl rfl rfl (by decide) rfl (by decide) ?_; refine awps_stp0 rfl rfl (by decide) (stp_pick rfl rfl rfl) ?_; refine awps_stp0 rfl rfl (by decide) (stp_move (.inr rfl) rfl) ?_; refine awps_nil ?_; refine thenQ_nil ?_; refine awp_ret ?_
    -- leaf g6Tg11F
    refine ret0 (noL hL) (.inl rfl) (resAs_tmp rfl (resAs_nil)) ?_ ?_
    · rfl
    refine ⟨bool_w ?_, rfl⟩
    first | (simp_all [noneB]; done) | (simp_all [noneB]; cases t.args <;> simp <;> omega)
  try simp only [↓cqA, cqB] at g6
  refine awps_gs rfl rfl rfl rfl (by decide) rfl (by decide) ?_; refine awps_gs rfl rfl rfl rfl (by decide) rfl (by decide) ?_; refine awps_gs rfl rfl rfl rfl (by decide) rfl (by decide) ?_; refine awps_stp0 rfl rfl (by decide) (stp_pick rfl rfl rfl) ?_; refine awps_stp0 rfl rfl (by decide) (stp_move (.inl rfl) rfl) ?_; refine awps_gs rfl rfl rfl rfl (by decide) rfl (by decide) ?_
  refine awps_gs rfl rfl rfl rfl (by decide) rfl (by decide) ?_; refine awps_gs rfl rfl rfl rfl (by decide) rfl (by decide) ?_; refine awps_stp0 rfl rfl (by decide) (stp_pick rfl rfl rfl) ?_; refine awps_stp0 rfl rfl (by decide) (stp_move (.inl rfl) rfl) ?_; refine awps_gs rfl rfl rfl rfl (by decide) rfl (by decide) ?_; refine awps_gs rfl rfl rfl rfl (by decide) rfl (by decide) ?_
  refine awps_gs rfl rfl rfl rfl (by decide) rfl (by decide) ?_; refine awps_gs rfl rfl rfl rfl (by decide) rfl (by decide) ?_; refine awps_stp0 rfl rfl (by decide) (stp_pick rfl rfl rfl) ?_; refine awps_stp0 rfl rfl (by decide) (stp_move (.inr rfl) rfl) ?_; refine awps_nil ?_; refine thenQ_nil ?_; refine awp_ret ?_
  -- leaf g6F
  refine ret0 (noL hL) (.inl rfl) (resAs_tmp rfl (resAs_nil)) ?_ ?_
  · rfl
  refine ⟨bool_w ?_, rfl⟩
  first | (simp_all [noneB]; done) | (simp_all [noneB]; cases t.args <;> simp <;> omega)
def cmpsB (g : Gd) : Bool := decide (1 ≤ g.kind) && decide (g.kind ≤ 4) && mayT g.l && mayT g.r
theorem showCompares_ok (g : Gd) (hg : g.wf) : PF 168 [.agg (lift false (gdD g))] (bv (cmpsB g)) := by
  have h1 := hg.2.1
  have h2 := hg.2.2
  refine AC_intro Tryz.func168 rfl Tryz.ntmps168 (Nat.le_of_ble_eq_true rfl) fun c hL hQ hDD => ?_; refine awp_seq ?_; refine awp_region ?_; refine awps_stp1 rfl rfl (by decide) (stp_box 1 rfl rfl rfl) rfl ?_; refine awps_stp0 rfl rfl (by decide) (stp_move (.inr rfl) rfl) ?_; refine awps_nil ?_; refine thenQ_nil ?_; refine awp_seq ?_; refine awp_region ?_; refine awps_stp0 rfl rfl (by decide) (stp_fieldAddr rfl fo_api_Guard_0 rfl) ?_; refine awps_stp0 rfl rfl (by decide) (stp_load rfl tf_int rfl rfl rfl rfl rfl) ?_
  refine awps_stp0 rfl rfl (by decide) (stp_binI rfl rfl rfl rfl) ?_; refine awps_stp0 rfl rfl (by decide) (stp_move (.inl rfl) rfl) ?_; refine awps_split 6 rfl (fun g6 => ?_) (fun g6 => ?_)
  · try simp only [↓cqA, cqB] at g6
    refine awps_g0 rfl rfl rfl (by decide) rfl (by decide) (stp_fieldAddr rfl fo_api_Guard_0 rfl) ?_; refine awps_g0 rfl rfl rfl (by decide) rfl (by decide) (stp_load rfl tf_int rfl rfl rfl rfl rfl) ?_; refine awps_g0 rfl rfl rfl (by decide) rfl (by decide) (stp_binI rfl rfl rfl rfl) ?_; refine awps_stp0 rfl rfl (by decide) (stp_pick rfl rfl rfl) ?_; refine awps_stp0 rfl rfl (by decide) (stp_move (.inl rfl) rfl) ?_; refine awps_split 11 rfl (fun g11 => ?_) (fun g11 => ?_)
    · try simp only [↓cqA, cqB] at g11
      refine awps_g0 rfl rfl rfl (by decide) rfl (by decide) (stp_fieldAddr rfl fo_api_Guard_1 rfl) ?_; refine awps_g0 rfl rfl rfl (by decide) rfl (by decide) (stp_load rfl tf_api_Term rfl rfl rfl rfl rfl) ?_; refine awps_g0 rfl rfl rfl (by decide) rfl (by decide) (stp_call (avs := [_]) true rfl en_term_May rfl rfl (May_ok g.l h1) (fun _ => rfl) rfl) ?_; refine awps_stp0 rfl rfl (by decide) (stp_pick rfl rfl rfl) ?_; refine awps_stp0 rfl rfl (by decide) (stp_move (.inl rfl) rfl) ?_; refine awps_split 16 rfl (fun g16 => ?_) (fun g16 => ?_)
      · try simp only [↓cqA, cqB] at g16
        refine awps_g0 rfl rfl rfl (by decide) rfl (by decide) (stp_fieldAddr rfl fo_api_Guard_2 rfl) ?_; refine awps_g0 rfl rfl rfl (by decide) rfl (by decide) (stp_load rfl tf_api_Term rfl rfl rfl rfl rfl) ?_; refine awps_g0 rfl rfl rfl (by decide) rfl (by decide) (stp_call (avs := [_]) true rfl en_term_May rfl rfl (May_ok g.r h2) (fun _ => rfl) rfl) ?_; refine awps_stp0 rfl rfl (by decide) (stp_pick rfl rfl rfl) ?_; refine awps_stp0 rfl rfl (by decide) (stp_move (.inr rfl) rfl) ?_; refine awps_nil ?_; refine thenQ_nil ?_; refine awp_ret ?_
        -- leaf g6Tg11Tg16T
        refine ret0 (noL hL) (.inl rfl) (resAs_tmp rfl (resAs_nil)) ?_ ?_
        · rfl
        refine ⟨bool_w ?_, rfl⟩
        simp_all [cmpsB]
        try omega
      try simp only [↓cqA, cqB] at g16
      refine awps_gs rfl rfl rfl rfl (by decide) rfl (by decide) ?_; refine awps_gs rfl rfl rfl rfl (by decide) rfl (by decide) ?_; refine awps_gs rfl rfl rfl rfl (by decide) rfl (by decide) ?_; refine awps_stp0 rfl rfl (by decide) (stp_pick rfl rfl rfl) ?_; refine awps_stp0 rfl rfl (by decide) (stp_move (.inr rfl) rfl) ?_; refine awps_nil ?_; refine thenQ_nil ?_; refine awp_ret ?_
      -- leaf g6Tg11Tg16F
      refine ret0 (noL hL) (.inl rfl) (resAs_tmp rfl (resAs_nil)) ?_ ?_
      · rfl
      refine ⟨bool_w ?_, rfl⟩
      simp_all [cmpsB]
      try omega
    try simp only [↓cqA, cqB] at g11
    refine awps_gs rfl rfl rfl rfl (by decide) rfl (by decide) ?_; refine awps_gs rfl rfl rfl rfl (by decide) rfl (by decide) ?_; refine awps_gs rfl rfl rfl rfl (by decide) rfl (by decide) ?_; refine awps_stp0 rfl rfl (by decide) (stp_pick rfl rfl rfl) ?_; refine awps_stp0 rfl rfl (by decide) (stp_move (.inl rfl) rfl) ?_; refine awps_gs rfl rfl rfl rfl (by decide) rfl (by decide) ?_
    refine awps_gs rfl rfl rfl rfl (by decide) rfl (by decide) ?_; refine awps_gs rfl rfl rfl rfl (by decide) rfl (by decide) ?_; refine awps_stp0 rfl rfl (by decide) (stp_pick rfl rfl rfl) ?_; refine awps_stp0 rfl rfl (by decide) (stp_move (.inr rfl) rfl) ?_; refine awps_nil ?_; refine thenQ_nil ?_; refine awp_ret ?_
    -- leaf g6Tg11F
    refine ret0 (noL hL) (.inl rfl) (resAs_tmp rfl (resAs_nil)) ?_ ?_
    · rfl
    refine ⟨bool_w ?_, rfl⟩
    simp_all [cmpsB]
    try omega
  try simp only [↓cqA, cqB] at g6
  refine awps_gs rfl rfl rfl rfl (by decide) rfl (by decide) ?_; refine awps_gs rfl rfl rfl rfl (by decide) rfl (by decide) ?_; refine awps_gs rfl rfl rfl rfl (by decide) rfl (by decide) ?_; refine awps_stp0 rfl rfl (by decide) (stp_pick rfl rfl rfl) ?_; refine awps_stp0 rfl rfl (by decide) (stp_move (.inl rfl) rfl) ?_; refine awps_gs rfl rfl rfl rfl (by decide) rfl (by decide) ?_
  refine awps_gs rfl rfl rfl rfl (by decide) rfl (by decide) ?_; refine awps_gs rfl rfl rfl rfl (by decide) rfl (by decide) ?_; refine awps_stp0 rfl rfl (by decide) (stp_pick rfl rfl rfl) ?_; refine awps_stp0 rfl rfl (by decide) (stp_move (.inl rfl) rfl) ?_; refine awps_gs rfl rfl rfl rfl (by decide) rfl (by decide) ?_; refine awps_gs rfl rfl rfl rfl (by decide) rfl (by decide) ?_
  refine awps_gs rfl rfl rfl rfl (by decide) rfl (by decide) ?_; refine awps_stp0 rfl rfl (by decide) (stp_pick rfl rfl rfl) ?_; refine awps_stp0 rfl rfl (by decide) (stp_move (.inr rfl) rfl) ?_; refine awps_nil ?_; refine thenQ_nil ?_; refine awp_ret ?_
  -- leaf g6F
  refine ret0 (noL hL) (.inl rfl) (resAs_tmp rfl (resAs_nil)) ?_ ?_
  · rfl
  refine ⟨bool_w ?_, rfl⟩
  simp_all [cmpsB]
  try omega
def okG (g : Gd) : Bool := cmpsB g || ((decide (g.kind = 5) || decide (g.kind = 6)) && (mayT g.l && flatB g.l) && noneB g.r)
theorem showGuards1_ok (g : Gd) (hg : g.wf) : PF 165 [.agg (lift false (gdD g))] (bv (!(okG g))) := by
  have h1 := hg.2.1
  have h2 := hg.2.2
  refine AC_intro Tryz.func165 rfl Tryz.ntmps165 (Nat.le_of_ble_eq_true rfl) fun c hL hQ hDD => ?_; refine awp_seq ?_; refine awp_region ?_; refine awps_stp1 rfl rfl (by decide) (stp_box 1 rfl rfl rfl) rfl ?_; refine awps_stp0 rfl rfl (by decide) (stp_move (.inr rfl) rfl) ?_; refine awps_nil ?_; refine thenQ_nil ?_; refine awp_seq ?_; refine awp_region ?_; refine awps_stp0 rfl rfl (by decide) (stp_fieldAddr rfl fo_api_Guard_0 rfl) ?_; refine awps_stp0 rfl rfl (by decide) (stp_load rfl tf_int rfl rfl rfl rfl rfl) ?_
  refine awps_stp0 rfl rfl (by decide) (stp_binI rfl rfl rfl rfl) ?_; refine awps_stp0 rfl rfl (by decide) (stp_move (.inl rfl) rfl) ?_; refine awps_split 7 rfl (fun g7 => ?_) (fun g7 => ?_)
  · try simp only [↓cqA, cqB] at g7
    refine awps_gs rfl rfl rfl rfl (by decide) rfl (by decide) ?_; refine awps_gs rfl rfl rfl rfl (by decide) rfl (by decide) ?_; refine awps_gs rfl rfl rfl rfl (by decide) rfl (by decide) ?_; refine awps_stp0 rfl rfl (by decide) (stp_pick rfl rfl rfl) ?_; refine awps_stp0 rfl rfl (by decide) (stp_move (.inl rfl) rfl) ?_; refine awps_g0 rfl rfl rfl (by decide) rfl (by decide) (stp_fieldAddr rfl fo_api_Guard_1 rfl) ?_; refine awps_g0 rfl rfl rfl (by decide) rfl (by decide) (stp_load rfl tf_api_Term rfl rfl rfl rfl rfl) ?_
    refine awps_g0 rfl rfl rfl (by decide) rfl (by decide) (stp_call (avs := [_]) true rfl en_show_atom rfl rfl (showAtom_ok g.l h1) (fun _ => rfl) rfl) ?_; refine awps_stp0 rfl rfl (by decide) (stp_pick rfl rfl rfl) ?_; refine awps_stp0 rfl rfl (by decide) (stp_move (.inl rfl) rfl) ?_; refine awps_split 17 rfl (fun g17 => ?_) (fun g17 => ?_)
    · try simp only [↓cqA, cqB] at g17
      refine awps_g0 rfl rfl rfl (by decide) rfl (by decide) (stp_fieldAddr rfl fo_api_Guard_2 rfl) ?_; refine awps_g0 rfl rfl rfl (by decide) rfl (by decide) (stp_load rfl tf_api_Term rfl rfl rfl rfl rfl) ?_; refine awps_g0 rfl rfl rfl (by decide) rfl (by decide) (stp_call (avs := [_]) true rfl en_show_none rfl rfl (showNone_ok g.r h2) (fun _ => rfl) rfl) ?_; refine awps_stp0 rfl rfl (by decide) (stp_pick rfl rfl rfl) ?_; refine awps_stp0 rfl rfl (by decide) (stp_move (.inr rfl) rfl) ?_; refine awps_nil ?_; refine thenQ_nil ?_; refine awp_seq ?_; refine awp_region ?_
      refine awps_stp0 rfl rfl (by decide) (stp_load_all rfl tf_api_Guard rfl rfl rfl rfl) ?_; refine awps_call (avs := [_]) true rfl rfl rfl (by decide) en_show_compares rfl rfl (showCompares_ok g hg) rfl rfl ?_; refine awps_stp0 rfl rfl (by decide) (stp_not rfl rfl) ?_; refine awps_stp0 rfl rfl (by decide) (stp_move (.inl rfl) rfl) ?_; refine awps_split 25 rfl (fun g25 => ?_) (fun g25 => ?_)
      · try simp only [↓cqA, cqB] at g25
        refine awps_g0 rfl rfl rfl (by decide) rfl (by decide) (stp_move (.inl rfl) rfl) ?_; refine awps_g0 rfl rfl rfl (by decide) rfl (by decide) (stp_not rfl rfl) ?_; refine awps_stp0 rfl rfl (by decide) (stp_pick rfl rfl rfl) ?_; refine awps_stp0 rfl rfl (by decide) (stp_move (.inr rfl) rfl) ?_; refine awps_nil ?_; refine thenQ_nil ?_; refine awp_ret ?_
        -- leaf g7Tg17Tg25T
        refine ret0 (noL hL) (.inl rfl) (resAs_tmp rfl (resAs_nil)) ?_ ?_
        · rfl
        refine ⟨bool_w ?_, rfl⟩
        first | (simp_all [okG]; done) | (cases hm : mayT g.l <;> cases hf : flatB g.l <;> simp_all [okG])
      try simp only [↓cqA, cqB] at g25
      refine awps_gs rfl rfl rfl rfl (by decide) rfl (by decide) ?_; refine awps_gs rfl rfl rfl rfl (by decide) rfl (by decide) ?_; refine awps_stp0 rfl rfl (by decide) (stp_pick rfl rfl rfl) ?_; refine awps_stp0 rfl rfl (by decide) (stp_move (.inr rfl) rfl) ?_; refine awps_nil ?_; refine thenQ_nil ?_; refine awp_ret ?_
      -- leaf g7Tg17Tg25F
      refine ret0 (noL hL) (.inl rfl) (resAs_tmp rfl (resAs_nil)) ?_ ?_
      · rfl
      refine ⟨bool_w ?_, rfl⟩
      first | (simp_all [okG]; done) | (cases hm : mayT g.l <;> cases hf : flatB g.l <;> simp_all [okG])
    try simp only [↓cqA, cqB] at g17
    refine awps_gs rfl rfl rfl rfl (by decide) rfl (by decide) ?_; refine awps_gs rfl rfl rfl rfl (by decide) rfl (by decide) ?_; refine awps_gs rfl rfl rfl rfl (by decide) rfl (by decide) ?_; refine awps_stp0 rfl rfl (by decide) (stp_pick rfl rfl rfl) ?_; refine awps_stp0 rfl rfl (by decide) (stp_move (.inr rfl) rfl) ?_; refine awps_nil ?_; refine thenQ_nil ?_; refine awp_seq ?_; refine awp_region ?_; refine awps_stp0 rfl rfl (by decide) (stp_load_all rfl tf_api_Guard rfl rfl rfl rfl) ?_
    refine awps_call (avs := [_]) true rfl rfl rfl (by decide) en_show_compares rfl rfl (showCompares_ok g hg) rfl rfl ?_; refine awps_stp0 rfl rfl (by decide) (stp_not rfl rfl) ?_; refine awps_stp0 rfl rfl (by decide) (stp_move (.inl rfl) rfl) ?_; refine awps_split 25 rfl (fun g25 => ?_) (fun g25 => ?_)
    · try simp only [↓cqA, cqB] at g25
      refine awps_g0 rfl rfl rfl (by decide) rfl (by decide) (stp_move (.inl rfl) rfl) ?_; refine awps_g0 rfl rfl rfl (by decide) rfl (by decide) (stp_not rfl rfl) ?_; refine awps_stp0 rfl rfl (by decide) (stp_pick rfl rfl rfl) ?_; refine awps_stp0 rfl rfl (by decide) (stp_move (.inr rfl) rfl) ?_; refine awps_nil ?_; refine thenQ_nil ?_; refine awp_ret ?_
      -- leaf g7Tg17Fg25T
      refine ret0 (noL hL) (.inl rfl) (resAs_tmp rfl (resAs_nil)) ?_ ?_
      · rfl
      refine ⟨bool_w ?_, rfl⟩
      first | (simp_all [okG]; done) | (cases hm : mayT g.l <;> cases hf : flatB g.l <;> simp_all [okG])
    try simp only [↓cqA, cqB] at g25
    refine awps_gs rfl rfl rfl rfl (by decide) rfl (by decide) ?_; refine awps_gs rfl rfl rfl rfl (by decide) rfl (by decide) ?_; refine awps_stp0 rfl rfl (by decide) (stp_pick rfl rfl rfl) ?_; refine awps_stp0 rfl rfl (by decide) (stp_move (.inr rfl) rfl) ?_; refine awps_nil ?_; refine thenQ_nil ?_; refine awp_ret ?_
    -- leaf g7Tg17Fg25F
    refine ret0 (noL hL) (.inl rfl) (resAs_tmp rfl (resAs_nil)) ?_ ?_
    · rfl
    refine ⟨bool_w ?_, rfl⟩
    first | (simp_all [okG]; done) | (cases hm : mayT g.l <;> cases hf : flatB g.l <;> simp_all [okG])
  try simp only [↓cqA, cqB] at g7
  refine awps_g0 rfl rfl rfl (by decide) rfl (by decide) (stp_fieldAddr rfl fo_api_Guard_0 rfl) ?_; refine awps_g0 rfl rfl rfl (by decide) rfl (by decide) (stp_load rfl tf_int rfl rfl rfl rfl rfl) ?_; refine awps_g0 rfl rfl rfl (by decide) rfl (by decide) (stp_binI rfl rfl rfl rfl) ?_; refine awps_stp0 rfl rfl (by decide) (stp_pick rfl rfl rfl) ?_; refine awps_stp0 rfl rfl (by decide) (stp_move (.inl rfl) rfl) ?_; refine awps_split 12 rfl (fun g12 => ?_) (fun g12 => ?_)
  · try simp only [↓cqA, cqB] at g12
    refine awps_g0 rfl rfl rfl (by decide) rfl (by decide) (stp_fieldAddr rfl fo_api_Guard_1 rfl) ?_; refine awps_g0 rfl rfl rfl (by decide) rfl (by decide) (stp_load rfl tf_api_Term rfl rfl rfl rfl rfl) ?_; refine awps_g0 rfl rfl rfl (by decide) rfl (by decide) (stp_call (avs := [_]) true rfl en_show_atom rfl rfl (showAtom_ok g.l h1) (fun _ => rfl) rfl) ?_; refine awps_stp0 rfl rfl (by decide) (stp_pick rfl rfl rfl) ?_; refine awps_stp0 rfl rfl (by decide) (stp_move (.inl rfl) rfl) ?_; refine awps_split 17 rfl (fun g17 => ?_) (fun g17 => ?_)
    · try simp only [↓cqA, cqB] at g17
      refine awps_g0 rfl rfl rfl (by decide) rfl (by decide) (stp_fieldAddr rfl fo_api_Guard_2 rfl) ?_; refine awps_g0 rfl rfl rfl (by decide) rfl (by decide) (stp_load rfl tf_api_Term rfl rfl rfl rfl rfl) ?_; refine awps_g0 rfl rfl rfl (by decide) rfl (by decide) (stp_call (avs := [_]) true rfl en_show_none rfl rfl (showNone_ok g.r h2) (fun _ => rfl) rfl) ?_; refine awps_stp0 rfl rfl (by decide) (stp_pick rfl rfl rfl) ?_; refine awps_stp0 rfl rfl (by decide) (stp_move (.inr rfl) rfl) ?_; refine awps_nil ?_; refine thenQ_nil ?_; refine awp_seq ?_; refine awp_region ?_
      refine awps_stp0 rfl rfl (by decide) (stp_load_all rfl tf_api_Guard rfl rfl rfl rfl) ?_; refine awps_call (avs := [_]) true rfl rfl rfl (by decide) en_show_compares rfl rfl (showCompares_ok g hg) rfl rfl ?_; refine awps_stp0 rfl rfl (by decide) (stp_not rfl rfl) ?_; refine awps_stp0 rfl rfl (by decide) (stp_move (.inl rfl) rfl) ?_; refine awps_split 25 rfl (fun g25 => ?_) (fun g25 => ?_)
      · try simp only [↓cqA, cqB] at g25
        refine awps_g0 rfl rfl rfl (by decide) rfl (by decide) (stp_move (.inl rfl) rfl) ?_; refine awps_g0 rfl rfl rfl (by decide) rfl (by decide) (stp_not rfl rfl) ?_; refine awps_stp0 rfl rfl (by decide) (stp_pick rfl rfl rfl) ?_; refine awps_stp0 rfl rfl (by decide) (stp_move (.inr rfl) rfl) ?_; refine awps_nil ?_; refine thenQ_nil ?_; refine awp_ret ?_
        -- leaf g7Fg12Tg17Tg25T
        refine ret0 (noL hL) (.inl rfl) (resAs_tmp rfl (resAs_nil)) ?_ ?_
        · rfl
        refine ⟨bool_w ?_, rfl⟩
        first | (simp_all [okG]; done) | (cases hm : mayT g.l <;> cases hf : flatB g.l <;> simp_all [okG])
      try simp only [↓cqA, cqB] at g25
      refine awps_gs rfl rfl rfl rfl (by decide) rfl (by decide) ?_; refine awps_gs rfl rfl rfl rfl (by decide) rfl (by decide) ?_; refine awps_stp0 rfl rfl (by decide) (stp_pick rfl rfl rfl) ?_; refine awps_stp0 rfl rfl (by decide) (stp_move (.inr rfl) rfl) ?_; refine awps_nil ?_; refine thenQ_nil ?_; refine awp_ret ?_
      -- leaf g7Fg12Tg17Tg25F
      refine ret0 (noL hL) (.inl rfl) (resAs_tmp rfl (resAs_nil)) ?_ ?_
      · rfl
      refine ⟨bool_w ?_, rfl⟩
      first | (simp_all [okG]; done) | (cases hm : mayT g.l <;> cases hf : flatB g.l <;> simp_all [okG])
    try simp only [↓cqA, cqB] at g17
    refine awps_gs rfl rfl rfl rfl (by decide) rfl (by decide) ?_; refine awps_gs rfl rfl rfl rfl (by decide) rfl (by decide) ?_; refine awps_gs rfl rfl rfl rfl (by decide) rfl (by decide) ?_; refine awps_stp0 rfl rfl (by decide) (stp_pick rfl rfl rfl) ?_; refine awps_stp0 rfl rfl (by decide) (stp_move (.inr rfl) rfl) ?_; refine awps_nil ?_; refine thenQ_nil ?_; refine awp_seq ?_; refine awp_region ?_; refine awps_stp0 rfl rfl (by decide) (stp_load_all rfl tf_api_Guard rfl rfl rfl rfl) ?_
    refine awps_call (avs := [_]) true rfl rfl rfl (by decide) en_show_compares rfl rfl (showCompares_ok g hg) rfl rfl ?_; refine awps_stp0 rfl rfl (by decide) (stp_not rfl rfl) ?_; refine awps_stp0 rfl rfl (by decide) (stp_move (.inl rfl) rfl) ?_; refine awps_split 25 rfl (fun g25 => ?_) (fun g25 => ?_)
    · try simp only [↓cqA, cqB] at g25
      refine awps_g0 rfl rfl rfl (by decide) rfl (by decide) (stp_move (.inl rfl) rfl) ?_; refine awps_g0 rfl rfl rfl (by decide) rfl (by decide) (stp_not rfl rfl) ?_; refine awps_stp0 rfl rfl (by decide) (stp_pick rfl rfl rfl) ?_; refine awps_stp0 rfl rfl (by decide) (stp_move (.inr rfl) rfl) ?_; refine awps_nil ?_; refine thenQ_nil ?_; refine awp_ret ?_
      -- leaf g7Fg12Tg17Fg25T
      refine ret0 (noL hL) (.inl rfl) (resAs_tmp rfl (resAs_nil)) ?_ ?_
      · rfl
      refine ⟨bool_w ?_, rfl⟩
      first | (simp_all [okG]; done) | (cases hm : mayT g.l <;> cases hf : flatB g.l <;> simp_all [okG])
    try simp only [↓cqA, cqB] at g25
    refine awps_gs rfl rfl rfl rfl (by decide) rfl (by decide) ?_; refine awps_gs rfl rfl rfl rfl (by decide) rfl (by decide) ?_; refine awps_stp0 rfl rfl (by decide) (stp_pick rfl rfl rfl) ?_; refine awps_stp0 rfl rfl (by decide) (stp_move (.inr rfl) rfl) ?_; refine awps_nil ?_; refine thenQ_nil ?_; refine awp_ret ?_
    -- leaf g7Fg12Tg17Fg25F
    refine ret0 (noL hL) (.inl rfl) (resAs_tmp rfl (resAs_nil)) ?_ ?_
    · rfl
    refine ⟨bool_w ?_, rfl⟩
    first | (simp_all [okG]; done) | (cases hm : mayT g.l <;> cases hf : flatB g.l <;> simp_all [okG])
  try simp only [↓cqA, cqB] at g12
  refine awps_gs rfl rfl rfl rfl (by decide) rfl (by decide) ?_; refine awps_gs rfl rfl rfl rfl (by decide) rfl (by decide) ?_; refine awps_gs rfl rfl rfl rfl (by decide) rfl (by decide) ?_; refine awps_stp0 rfl rfl (by decide) (stp_pick rfl rfl rfl) ?_; refine awps_stp0 rfl rfl (by decide) (stp_move (.inl rfl) rfl) ?_; refine awps_gs rfl rfl rfl rfl (by decide) rfl (by decide) ?_
  refine awps_gs rfl rfl rfl rfl (by decide) rfl (by decide) ?_; refine awps_gs rfl rfl rfl rfl (by decide) rfl (by decide) ?_; refine awps_stp0 rfl rfl (by decide) (stp_pick rfl rfl rfl) ?_; refine awps_stp0 rfl rfl (by decide) (stp_move (.inr rfl) rfl) ?_; refine awps_nil ?_; refine thenQ_nil ?_; refine awp_seq ?_; refine awp_region ?_; refine awps_stp0 rfl rfl (by decide) (stp_load_all rfl tf_api_Guard rfl rfl rfl rfl) ?_
  refine awps_call (avs := [_]) true rfl rfl rfl (by decide) en_show_compares rfl rfl (showCompares_ok g hg) rfl rfl ?_; refine awps_stp0 rfl rfl (by decide) (stp_not rfl rfl) ?_; refine awps_stp0 rfl rfl (by decide) (stp_move (.inl rfl) rfl) ?_; refine awps_split 25 rfl (fun g25 => ?_) (fun g25 => ?_)
  · try simp only [↓cqA, cqB] at g25
    refine awps_g0 rfl rfl rfl (by decide) rfl (by decide) (stp_move (.inl rfl) rfl) ?_; refine awps_g0 rfl rfl rfl (by decide) rfl (by decide) (stp_not rfl rfl) ?_; refine awps_stp0 rfl rfl (by decide) (stp_pick rfl rfl rfl) ?_; refine awps_stp0 rfl rfl (by decide) (stp_move (.inr rfl) rfl) ?_; refine awps_nil ?_; refine thenQ_nil ?_; refine awp_ret ?_
    -- leaf g7Fg12Fg25T
    refine ret0 (noL hL) (.inl rfl) (resAs_tmp rfl (resAs_nil)) ?_ ?_
    · rfl
    refine ⟨bool_w ?_, rfl⟩
    first | (simp_all [okG]; done) | (cases hm : mayT g.l <;> cases hf : flatB g.l <;> simp_all [okG])
  try simp only [↓cqA, cqB] at g25
  refine awps_gs rfl rfl rfl rfl (by decide) rfl (by decide) ?_; refine awps_gs rfl rfl rfl rfl (by decide) rfl (by decide) ?_; refine awps_stp0 rfl rfl (by decide) (stp_pick rfl rfl rfl) ?_; refine awps_stp0 rfl rfl (by decide) (stp_move (.inr rfl) rfl) ?_; refine awps_nil ?_; refine thenQ_nil ?_; refine awp_ret ?_
  -- leaf g7Fg12Fg25F
  refine ret0 (noL hL) (.inl rfl) (resAs_tmp rfl (resAs_nil)) ?_ ?_
  · rfl
  refine ⟨bool_w ?_, rfl⟩
  first | (simp_all [okG]; done) | (cases hm : mayT g.l <;> cases hf : flatB g.l <;> simp_all [okG])
theorem IndexFunc_gd_ok (B : Bool) (ts : List Gd) (es : List (List D)) (hes : es = ts.map gdD) (hlen : ts.length ≤ 140737488351232) (g : FuncId) (caps : List AV) (hen : Enters Tryz.prog g) (Os : Nat → List (Nat × Ob)) (p : Nat → Bool) (hO : Thread B caps Os)
    (hstep : ∀ k u, ts[k]? = some u → (∀ j, j < k → p j = false) → AC Tryz.prog g ((fun g => .agg (lift false (gdD g))) u :: caps) (Os k) (fun r O => r = bv (p k) ∧ O = Os (k + 1))) :
    AC Tryz.prog 216 [.dat false 9 es, .fn g caps] (Os 0) (fun r O => ∃ m n i, m ≤ ts.length ∧ (∀ j, j < m → p j = false) ∧ ((m < ts.length ∧ p m = true ∧ i = (m : Int) ∧ n = m + 1) ∨ (m = ts.length ∧ i = -1 ∧ n = m)) ∧ r = iv i ∧ O = Os n) := by
  have hl : es.length = ts.length := by rw [hes, List.length_map]
  refine AC_intro Tryz.func216 rfl Tryz.ntmps216 (Nat.le_of_ble_eq_true rfl) fun c hL hQ hDD => ?_; refine awp_seq ?_; refine awp_region ?_; refine awps_stp0 rfl rfl (by decide) (stp_move (.inr rfl) rfl) ?_; refine awps_nil ?_; refine thenQ_nil ?_; refine awp_seq ?_; refine awp_seq ?_; refine awp_region ?_; refine awps_stp0 rfl rfl (by decide) (stp_move (.inl rfl) rfl) ?_; refine awps_stp0 rfl rfl (by decide) (stp_len_dat rfl sl_S_api_Guard rfl) ?_
  refine awps_stp0 rfl rfl (by decide) (stp_move (.inl rfl) rfl) ?_; refine awps_nil ?_; refine thenQ_nil ?_; refine awp_block ?_; refine awp_while (ts.length) (fun k => k ≤ ts.length ∧ ∀ j, j < k → p j = false) (fun k => ⟨[(0, .dat false 9 es), (1, .fn g caps), (7, iv es.length), (8, iv (k : Int))], Os k⟩) (⟨by omega, fun j hj => absurd hj (by omega)⟩) ?_ (fun k hk hp => ?_)
  · exact sub_re (SubT.cons (lk_eq rfl (by first | rfl | simp)) (SubT.cons (lk_eq rfl (by first | rfl | simp)) (SubT.cons (lk_eq rfl (by first | rfl | simp)) (SubT.cons (lk_eq rfl (by first | rfl | simp)) (SubT.nil))))) (fun _ _ h => h) (by simp [allT, AV.allL, hO.all]) (hO.self _) (fun l hl => by rw [hO.dom]; exact (hL l).1 hl)
  refine awp_seq ?_; refine awp_region ?_; refine awps_stp0 rfl rfl (by decide) (stp_binI rfl rfl rfl rfl) ?_; refine awps_nil ?_; refine thenQ_nil ?_; refine awp_seq ?_; refine awp_cond rfl (fun c0 => ?_) (fun c0 => ?_)
  · try simp only [↓cqA, cqB] at c0
    obtain ⟨u, hu⟩ := get_of_lt (l := ts) (k := k) (by omega)
    refine awp_skip ?_; refine thenQ_nil ?_; refine awp_seq ?_; refine awp_block ?_; refine awp_seq ?_; refine awp_region ?_; refine awps_stp0 rfl rfl (by decide) (stp_move (.inl rfl) rfl) ?_; refine awps_stp0 rfl rfl (by decide) (stp_move (.inr rfl) rfl) ?_; refine awps_nil ?_; refine thenQ_nil ?_; refine awp_seq ?_; refine awp_region ?_; refine awps_stp0 rfl rfl (by decide) (stp_move (.inl rfl) rfl) ?_; refine awps_stp0 rfl rfl (by decide) (stp_move (.inl rfl) rfl) ?_; refine awps_stp0 rfl rfl (by decide) (stp_move (.inl rfl) rfl) ?_
    refine awps_stp0 rfl rfl (by decide) (stp_indexAddr rfl sl_S_api_Guard rfl rfl (by omega) (by rw [hes, List.getElem?_map]; exact congrArg (Option.map gdD) hu)) ?_; refine awps_stp0 rfl rfl (by decide) (stp_load_elpa rfl tf_api_Guard rfl rfl) ?_; refine awps_callP (avs := [_]) B rfl rfl rfl (by decide) hen rfl rfl (hstep k u hu hp.2) (by rw [List.cons_append, List.nil_append]; simp only [AV.cvs, hO.cvs]; rfl) (hO.pass k) (by rintro r O' ⟨_, rfl⟩ l hl; left; rw [hO.dom] at hl ⊢; exact hl) (by rintro hB r O' ⟨rfl, rfl⟩; exact ⟨rfl, hO.q hB _⟩) ?_
    rintro r O' ⟨rfl, rfl⟩
    refine awps_nil ?_; refine thenQ_nil ?_; refine awp_cond rfl (fun c1 => ?_) (fun c1 => ?_)
    · try simp only [↓cqA, cqB] at c1
      refine awp_seq ?_; refine awp_region ?_; refine awps_stp0 rfl rfl (by decide) (stp_move (.inl rfl) rfl) ?_; refine awps_stp0 rfl rfl (by decide) (stp_move (.inr rfl) rfl) ?_; refine awps_nil ?_; refine thenQ_nil ?_; refine awp_ret ?_; refine inQ_ret (thenQ_ret (thenQ_ret (inQ_ret (thenQ_ret (?_)))))
      change retQ _ _ _ _ _ _ _
      refine retO (.inl rfl) (resAs_tmp rfl resAs_nil) SubO.left rfl (hO.self _) (fun l hl => by rw [hO.dom]; exact (hL l).1 hl) ?_
      exact ⟨k, _, _, by omega, hp.2, .inl ⟨by omega, c1, rfl, rfl⟩, rfl, rfl⟩
    try simp only [↓cqA, cqB] at c1
    refine awp_skip ?_; refine inQ_nil ?_; refine thenQ_nil ?_; refine awp_region ?_; refine awps_stp0 rfl rfl (by decide) (stp_add rfl rfl rfl (by omega)) ?_; refine awps_stp0 rfl rfl (by decide) (stp_move (.inl rfl) rfl) ?_; refine awps_nil ?_; refine thenQ_nil ?_; refine ⟨?_, ?_, ?_⟩
    · skip
      omega
    · skip
      refine ⟨by omega, fun j hj => ?_⟩
      by_cases hjk : j < k
      · exact hp.2 j hjk
      · rw [show j = k by omega]; exact c1
    exact sub_re (SubT.cons (lk_eq rfl (by first | rfl | simp)) (SubT.cons (lk_eq rfl (by first | rfl | simp)) (SubT.cons (lk_eq rfl (by first | rfl | simp)) (SubT.cons (lk_eq rfl (by first | rfl | simp)) (SubT.nil))))) (SubO.left) (by simp [allT, AV.allL, hO.all]) (hO.self _) (fun l hl => by rw [hO.dom]; exact (hL l).1 hl)
  try simp only [↓cqA, cqB] at c0
  refine awp_exit ?_; refine thenQ_exit (thenQ_exit (inQ_hit ?_)); refine thenQ_nil ?_; refine awp_seq ?_; refine awp_region ?_; refine awps_stp0 rfl rfl (by decide) (stp_move (.inr rfl) rfl) ?_; refine awps_nil ?_; refine thenQ_nil ?_; refine awp_ret ?_
  change retQ _ _ _ _ _ _ _
  refine retO (.inl rfl) (resAs_tmp rfl resAs_nil) (fun _ _ h => h) rfl (hO.self _) (fun l hl => by rw [hO.dom]; exact (hL l).1 hl) ?_
  exact ⟨k, _, _, by omega, hp.2, .inr ⟨by omega, rfl, rfl⟩, rfl, rfl⟩
theorem ContainsFunc_gd_ok (B : Bool) (ts : List Gd) (es : List (List D)) (hes : es = ts.map gdD) (hlen : ts.length ≤ 140737488351232) (g : FuncId) (caps : List AV) (hen : Enters Tryz.prog g) (Os : Nat → List (Nat × Ob)) (p : Nat → Bool) (hO : Thread B caps Os)
    (hstep : ∀ k u, ts[k]? = some u → (∀ j, j < k → p j = false) → AC Tryz.prog g ((fun g => .agg (lift false (gdD g))) u :: caps) (Os k) (fun r O => r = bv (p k) ∧ O = Os (k + 1))) :
    AC Tryz.prog 169 [.dat false 9 es, .fn g caps] (Os 0) (fun r O => ∃ m n b, m ≤ ts.length ∧ (∀ j, j < m → p j = false) ∧ ((m < ts.length ∧ p m = true ∧ b = true ∧ n = m + 1) ∨ (m = ts.length ∧ b = false ∧ n = m)) ∧ r = bv b ∧ O = Os n) := by
  refine AC_intro Tryz.func169 rfl Tryz.ntmps169 (Nat.le_of_ble_eq_true rfl) fun c hL hQ hDD => ?_; refine awp_seq ?_; refine awp_region ?_; refine awps_stp0 rfl rfl (by decide) (stp_move (.inr rfl) rfl) ?_; refine awps_nil ?_; refine thenQ_nil ?_; refine awp_seq ?_; refine awp_region ?_; refine awps_stp0 rfl rfl (by decide) (stp_move (.inl rfl) rfl) ?_; refine awps_stp0 rfl rfl (by decide) (stp_move (.inl rfl) rfl) ?_
  refine awps_callP (avs := [_, _]) B rfl rfl rfl (by decide) en_slices_IndexFunc_api_Guard_api_Guard rfl rfl (IndexFunc_gd_ok B ts es hes hlen g caps hen Os p hO hstep) (by simp only [List.append_nil, AV.cvs, AV.cv, hO.cvs]; rfl) (hO.pass 0) (by rintro r O' ⟨m, n, i, _, _, _, _, rfl⟩ l hl; left; rw [hO.dom] at hl ⊢; exact hl) (by rintro hB r O' ⟨m, n, i, _, _, _, rfl, rfl⟩; exact ⟨rfl, hO.q hB _⟩) ?_
  rintro r O' ⟨m, n, i, hm, hf, hc, rfl, rfl⟩
  refine awps_stp0 rfl rfl (by decide) (stp_binI rfl rfl rfl rfl) ?_; refine awps_stp0 rfl rfl (by decide) (stp_move (.inr rfl) rfl) ?_; refine awps_nil ?_; refine thenQ_nil ?_; refine awp_ret ?_
  -- leaf 
  change retQ _ _ _ _ _ _ _
  refine retO (.inl rfl) (resAs_tmp rfl resAs_nil) SubO.left rfl (hO.self _) (fun l hl => by rw [hO.dom]; exact (hL l).1 hl) ?_; refine ⟨m, n, _, hm, hf, ?_, rfl, rfl⟩
  rcases hc with ⟨h1, h2, rfl, h3⟩ | ⟨h1, rfl, h3⟩
  · exact .inl ⟨h1, h2, by simp, h3⟩
  · exact .inr ⟨h1, by simp, h3⟩
def okGs (l : List Gd) : Bool := decide (l.length ≤ 4) && l.all okG
theorem showGuards_ok (l : List Gd) (hl : lenOk l) (hw : ∀ g ∈ l, g.wf) : PF 110 [.dat false 9 (gdDs l)] (bv (okGs l)) := by
  have hlen := gdDs_length l
  simp only [lenOk] at hl
  refine AC_intro Tryz.func110 rfl Tryz.ntmps110 (Nat.le_of_ble_eq_true rfl) fun c hL hQ hDD => ?_; refine awp_seq ?_; refine awp_region ?_; refine awps_stp0 rfl rfl (by decide) (stp_move (.inr rfl) rfl) ?_; refine awps_nil ?_; refine thenQ_nil ?_; refine awp_seq ?_; refine awp_region ?_; refine awps_stp0 rfl rfl (by decide) (stp_move (.inr rfl) rfl) ?_; refine awps_nil ?_; refine thenQ_nil ?_; refine awp_seq ?_; refine awp_region ?_; refine awps_stp0 rfl rfl (by decide) (stp_move (.inl rfl) rfl) ?_; refine awps_stp0 rfl rfl (by decide) (stp_len_dat rfl sl_S_api_Guard rfl) ?_
  refine awps_stp0 rfl rfl (by decide) (stp_binI rfl rfl rfl rfl) ?_; refine awps_stp0 rfl rfl (by decide) (stp_move (.inl rfl) rfl) ?_; refine awps_split 7 rfl (fun g7 => ?_) (fun g7 => ?_)
  · try simp only [↓cqA, cqB] at g7
    refine awps_g0 rfl rfl rfl (by decide) rfl (by decide) (stp_move (.inl rfl) rfl) ?_; refine awps_g0 rfl rfl rfl (by decide) rfl (by decide) (stp_move (.inl rfl) rfl) ?_
    refine awps_gcallP (avs := [_, _]) false rfl rfl rfl (by decide) rfl rfl (by decide) en_slices_ContainsFunc_api_Guard_api_Guard rfl rfl (ContainsFunc_gd_ok false l _ rfl (by omega) _ [] en_show_Guards_1 (fun _ => []) (fun k => match l[k]? with | some g => !(okG g) | none => false) ⟨fun k l => rfl, fun k => passO .nil, fun k => rfl, fun k => rfl, fun k => rfl, fun k => rfl, fun h => by cases h⟩ (fun k g hg _ => by rw [hg]; exact showGuards1_ok g (hw g (List.mem_of_getElem? hg)))) (rfl) (passO .nil) (by rintro r O' ⟨m, n, b, _, _, _, _, rfl⟩; exact frB rfl) (by rintro h; cases h) ?_
    rintro r O' ⟨m, n, b, hm1, hf1, hc, rfl, rfl⟩
    refine awps_g0 rfl rfl rfl (by decide) rfl (by decide) (stp_not rfl rfl) ?_; refine awps_stp0 rfl rfl (by decide) (stp_pick rfl rfl rfl) ?_; refine awps_stp0 rfl rfl (by decide) (stp_move (.inr rfl) rfl) ?_; refine awps_nil ?_; refine thenQ_nil ?_; refine awp_ret ?_
    -- leaf g7T
    refine ret0 (noL hL) (.inl rfl) (resAs_tmp rfl (resAs_nil)) ?_ ?_
    · rfl
    refine ⟨bool_w ?_, rfl⟩
    first
      | (have hall : b = !(l.all okG) := by
           rcases hc with ⟨h1, h2, rfl, _⟩ | ⟨h1, rfl, _⟩
           · obtain ⟨x, hx⟩ := get_of_lt (l := l) (k := m) h1
             simp only [hx] at h2
             symm; rw [Bool.not_eq_true']
             exact List.all_eq_false.2 ⟨x, List.mem_of_getElem? hx, by simpa using h2⟩
           · symm; rw [Bool.not_eq_false']
             refine List.all_eq_true.2 fun x hx => ?_
             obtain ⟨j, hj⟩ := List.getElem?_of_mem hx
             have := hf1 j (by rw [h1]; exact (List.getElem?_eq_some_iff.1 hj).1)
             simp only [hj] at this
             simpa using this
         rw [hall, okGs, decide_eq_true (by omega)]; simp)
      | (rw [okGs, decide_eq_false (by omega)]; rfl)
  try simp only [↓cqA, cqB] at g7
  refine awps_gs rfl rfl rfl rfl (by decide) rfl (by decide) ?_; refine awps_gs rfl rfl rfl rfl (by decide) rfl (by decide) ?_; refine awps_gs rfl rfl rfl rfl (by decide) rfl (by decide) ?_; refine awps_gs rfl rfl rfl rfl (by decide) rfl (by decide) ?_; refine awps_stp0 rfl rfl (by decide) (stp_pick rfl rfl rfl) ?_; refine awps_stp0 rfl rfl (by decide) (stp_move (.inr rfl) rfl) ?_; refine awps_nil ?_; refine thenQ_nil ?_; refine awp_ret ?_
  -- leaf g7F
  refine ret0 (noL hL) (.inl rfl) (resAs_tmp rfl (resAs_nil)) ?_ ?_
  · rfl
  refine ⟨bool_w ?_, rfl⟩
  first
    | (have hall : b = !(l.all okG) := by
         rcases hc with ⟨h1, h2, rfl, _⟩ | ⟨h1, rfl, _⟩
         · obtain ⟨x, hx⟩ := get_of_lt (l := l) (k := m) h1
           simp only [hx] at h2
           symm; rw [Bool.not_eq_true']
           exact List.all_eq_false.2 ⟨x, List.mem_of_getElem? hx, by simpa using h2⟩
         · symm; rw [Bool.not_eq_false']
           refine List.all_eq_true.2 fun x hx => ?_
           obtain ⟨j, hj⟩ := List.getElem?_of_mem hx
           have := hf1 j (by rw [h1]; exact (List.getElem?_eq_some_iff.1 hj).1)
           simp only [hj] at this
           simpa using this
       rw [hall, okGs, decide_eq_true (by omega)]; simp)
    | (rw [okGs, decide_eq_false (by omega)]; rfl)
def atomK (k : List Tm) (i : Nat) : Bool := match k[i]? with
  | some t => mayT t && flatB t && groundB t && (decide (i = 0) || match k[i - 1]? with | some u => decide (cmpT 5 u t < 0) | none => true)
  | none => true
def atomsB (k : List Tm) : Bool := decide (k.length ≤ 60) && (List.range k.length).all (atomK k)
theorem knownAtoms_ok (l : List Tm) (hl : lenOk l) (hw : Tm.wfs l) : PF 109 [.dat false 4 (tmDs l)] (bv (atomsB l)) := by
  have hlen := tmDs_length l
  simp only [lenOk] at hl
  refine AC_intro Tryz.func109 rfl Tryz.ntmps109 (Nat.le_of_ble_eq_true rfl) fun c hL hQ hDD => ?_; refine awp_seq ?_; refine awp_region ?_; refine awps_stp0 rfl rfl (by decide) (stp_move (.inr rfl) rfl) ?_; refine awps_nil ?_; refine thenQ_nil ?_; refine awp_seq ?_; refine awp_seq ?_; refine awp_region ?_; refine awps_stp0 rfl rfl (by decide) (stp_move (.inl rfl) rfl) ?_; refine awps_stp0 rfl rfl (by decide) (stp_len_dat rfl sl_S_api_Term rfl) ?_
  refine awps_stp0 rfl rfl (by decide) (stp_binI rfl rfl rfl rfl) ?_; refine awps_nil ?_; refine thenQ_nil ?_; refine awp_cond rfl (fun c0 => ?_) (fun c0 => ?_)
  · try simp only [↓cqA, cqB] at c0
    refine awp_seq ?_; refine awp_region ?_; refine awps_stp0 rfl rfl (by decide) (stp_move (.inr rfl) rfl) ?_; refine awps_nil ?_; refine thenQ_nil ?_; refine awp_ret ?_; refine thenQ_ret (?_)
    -- leaf 0T
    refine ret0 (noL hL) (.inl rfl) (resAs_tmp rfl (resAs_nil)) ?_ ?_
    · rfl
    refine ⟨bool_w ?_, rfl⟩
    rw [atomsB, decide_eq_false (by omega)]; rfl
  try simp only [↓cqA, cqB] at c0
  refine awp_skip ?_; refine thenQ_nil ?_; refine awp_seq ?_; refine awp_seq ?_; refine awp_region ?_; refine awps_stp0 rfl rfl (by decide) (stp_move (.inl rfl) rfl) ?_; refine awps_stp0 rfl rfl (by decide) (stp_len_dat rfl sl_S_api_Term rfl) ?_; refine awps_stp0 rfl rfl (by decide) (stp_move (.inl rfl) rfl) ?_; refine awps_nil ?_; refine thenQ_nil ?_; refine awp_block ?_
  refine awp_while (l.length) (fun k => k ≤ l.length ∧ ∀ j, j < k → atomK l j = true) (fun k => ⟨[(0, .dat false 4 (tmDs l)), (8, .dat false 4 (tmDs l)), (9, iv (tmDs l).length), (10, iv (k : Int))], []⟩) (⟨by omega, fun j hj => absurd hj (by omega)⟩) ?_ (fun k hk hp => ?_)
  · exact sub_re (SubT.cons (lk_eq rfl (by first | rfl | simp)) (SubT.cons (lk_eq rfl (by first | rfl | simp)) (SubT.cons (lk_eq rfl (by first | rfl | simp)) (SubT.cons (lk_eq rfl (by first | rfl | simp)) (SubT.nil))))) (SubO.nil) rfl rfl (noL' (noL hL) _)
  refine awp_seq ?_; refine awp_region ?_; refine awps_stp0 rfl rfl (by decide) (stp_binI rfl rfl rfl rfl) ?_; refine awps_nil ?_; refine thenQ_nil ?_; refine awp_seq ?_; refine awp_cond rfl (fun c1 => ?_) (fun c1 => ?_)
  · try simp only [↓cqA, cqB] at c1
    obtain ⟨u, hu⟩ := get_of_lt (l := l) (k := k) (by omega)
    have huw := Tm.wfs_get hw hu
    refine awp_skip ?_; refine thenQ_nil ?_; refine awp_seq ?_; refine awp_block ?_; refine awp_seq ?_; refine awp_region ?_; refine awps_stp0 rfl rfl (by decide) (stp_move (.inl rfl) rfl) ?_; refine awps_stp0 rfl rfl (by decide) (stp_indexAddr rfl sl_S_api_Term rfl rfl (by omega) (tmDs_get hu)) ?_; refine awps_stp0 rfl rfl (by decide) (stp_load_elpa rfl tf_api_Term rfl rfl) ?_
    refine awps_stp1 rfl rfl (by decide) (stp_alloc 4 rfl zv_api_Term rfl) rfl ?_; refine awps_stp0 rfl rfl (by decide) (stp_move (.inr rfl) rfl) ?_; refine awps_store rfl rfl rfl tf_api_Term rfl rfl rfl rfl rfl rfl rfl rfl rfl ?_; refine awps_nil ?_; refine thenQ_nil ?_; refine awp_seq ?_
    rcases Bool.eq_false_or_eq_true (mayT u) with l16 | l16
    · have m16 := l16
      try simp only [↓cqA, cqB] at m16
      rcases Bool.eq_false_or_eq_true (flatB u) with l20 | l20
      · have m20 := l20
        try simp only [↓cqA, cqB] at m20
        rcases Bool.eq_false_or_eq_true (groundB u) with l25 | l25
        · have m25 := l25
          try simp only [↓cqA, cqB] at m25
          rcases Bool.eq_false_or_eq_true (decide ((k : Int) > 0)) with l30 | l30
          · have m30 := l30
            try simp only [↓cqA, cqB] at m30
            obtain ⟨v, hv⟩ := get_of_lt (l := l) (k := ((k : Int) - 1).toNat) (by omega)
            have hv2 : l[k - 1]? = some v := by rw [show k - 1 = ((k : Int) - 1).toNat by omega]; exact hv
            have hvw := Tm.wfs_get hw hv
            have hvk := hp.2 (k - 1) (by omega)
            have hvm : mayT v = true := by
              simp only [atomK, hv2, Bool.and_eq_true] at hvk
              exact hvk.1.1.1
            have hke : atomK l k = decide (cmpT 5 v u < 0) := by
              simp only [atomK, hu, hv2]
              simp [m16, m20, m25, show ¬ k = 0 by omega]
            refine awp_drawG 23 mixed rfl rfl rfl rfl ?_; refine MGo_c0 rfl (by decide) (.run rfl (stp_load_all rfl tf_api_Term rfl rfl rfl rfl)) ?_; refine MGo_c0 rfl (by decide) (.run rfl (stp_call (avs := [_]) true rfl en_term_May rfl rfl (by have hh := May_ok u huw; rw [l16] at hh; exact hh) (fun _ => rfl) rfl)) ?_; refine MGo_c0 rfl (by decide) (.run rfl (stp_not rfl rfl)) ?_; refine MGo_c0 rfl (by decide) (.run rfl (stp_move (.inl rfl) rfl)) ?_; refine MGo_c0 rfl (by decide) (.want rfl rfl rfl (by decide) (stp_load_all rfl tf_api_Term rfl rfl rfl rfl)) ?_
            refine MGo_c0 rfl (by decide) (.want rfl rfl rfl (by decide) (stp_call (avs := [_]) true rfl en_term_Flat rfl rfl (by have hh := Flat_ok u (mayT_dle m16).1 huw; rw [l20] at hh; exact hh) (fun _ => rfl) rfl)) ?_; refine MGo_c0 rfl (by decide) (.want rfl rfl rfl (by decide) (stp_not rfl rfl)) ?_; refine MGo_c0 rfl (by decide) (.run rfl (stp_pick rfl rfl rfl)) ?_; refine MGo_c0 rfl (by decide) (.run rfl (stp_move (.inl rfl) rfl)) ?_; refine MGo_c0 rfl (by decide) (.want rfl rfl rfl (by decide) (stp_load_all rfl tf_api_Term rfl rfl rfl rfl)) ?_
            refine MGo_c0 rfl (by decide) (.want rfl rfl rfl (by decide) (stp_call (avs := [_]) true rfl en_term_Is rfl rfl (by have hh := Is_ok u huw m16; rw [l25] at hh; exact hh) (fun _ => rfl) rfl)) ?_; refine MGo_c0 rfl (by decide) (.want rfl rfl rfl (by decide) (stp_not rfl rfl)) ?_; refine MGo_c0 rfl (by decide) (.run rfl (stp_pick rfl rfl rfl)) ?_
            refine MGo_c0 rfl (by decide) (.run rfl (stp_move (.inl rfl) rfl)) ?_; refine MGo_c0 rfl (by decide) (.want rfl rfl rfl (by decide) (stp_move (.inl rfl) rfl)) ?_; refine MGo_c0 rfl (by decide) (.want rfl rfl rfl (by decide) (stp_binI (r := .bool true) rfl rfl rfl (congrArg (fun b => some (Value.bool b)) l30))) ?_
            refine MGo_c0 rfl (by decide) (.want rfl rfl rfl (by decide) (stp_move (.inl rfl) rfl)) ?_; refine MGo_c0 rfl (by decide) (.want rfl rfl rfl (by decide) (stp_move (.inl rfl) rfl)) ?_; refine MGo_c0 rfl (by decide) (.want rfl rfl rfl (by decide) (stp_move (.inl rfl) rfl)) ?_; refine MGo_c0 rfl (by decide) (.want rfl rfl rfl (by decide) (stp_sub rfl rfl rfl (by omega))) ?_; refine MGo_c0 rfl (by decide) (.want rfl rfl rfl (by decide) (stp_indexAddr rfl sl_S_api_Term rfl rfl (by omega) (tmDs_get hv))) ?_
            refine MGo_c0 rfl (by decide) (.want rfl rfl rfl (by decide) (stp_load_elpa rfl tf_api_Term rfl rfl)) ?_; refine MGo_c0 rfl (by decide) (.want rfl rfl rfl (by decide) (stp_load_all rfl tf_api_Term rfl rfl rfl rfl)) ?_; refine MGo_nil ⟨rfl, rfl, ?_⟩; refine awps_g0 rfl rfl rfl (by decide) rfl (by decide) (stp_call (avs := [_, _]) true rfl en_term_Compare rfl rfl (Compare_ok 5 v u (mayT_dle hvm).1 hvw huw) (fun _ => rfl) rfl) ?_; refine awps_g0 rfl rfl rfl (by decide) rfl (by decide) (stp_binI rfl rfl rfl rfl) ?_
            refine awps_g0 rfl rfl rfl (by decide) rfl (by decide) (stp_pick rfl rfl rfl) ?_; refine awps_stp0 rfl rfl (by decide) (stp_pick rfl rfl rfl) ?_; refine awps_nil ?_; refine thenQ_nil ?_; refine awp_cond rfl (fun c2 => ?_) (fun c2 => ?_)
            · try simp only [↓cqA, cqB] at c2
              refine awp_seq ?_; refine awp_region ?_; refine awps_stp0 rfl rfl (by decide) (stp_move (.inr rfl) rfl) ?_; refine awps_nil ?_; refine thenQ_nil ?_; refine awp_ret ?_; refine inQ_ret (thenQ_ret (thenQ_ret (inQ_ret (thenQ_ret (?_)))))
              -- leaf 0F1Tl16Tl20Tl25Tl30T2T
              refine ret0 (noL hL) (.inl rfl) (resAs_tmp rfl (resAs_nil)) ?_ ?_
              · rfl
              refine ⟨bool_w ?_, rfl⟩
              first
                | (rw [atomsB, decide_eq_false (by omega)]; rfl)
                | (have hno : atomK l k = false := by
                     first
                       | exact hbad
                       | (rw [hke]; simp; omega)
                   have : (List.range l.length).all (atomK l) = false := List.all_eq_false.2 ⟨k, List.mem_range.2 (by omega), by simp [hno]⟩
                   rw [atomsB, this, Bool.and_false])
                | (have : (List.range l.length).all (atomK l) = true := List.all_eq_true.2 fun j hj => hp.2 j (by have := List.mem_range.1 hj; omega)
                   rw [atomsB, this, decide_eq_true (by omega)]; rfl)
            try simp only [↓cqA, cqB] at c2
            refine awp_skip ?_; refine inQ_nil ?_; refine thenQ_nil ?_; refine awp_region ?_; refine awps_stp0 rfl rfl (by decide) (stp_add rfl rfl rfl (by omega)) ?_; refine awps_stp0 rfl rfl (by decide) (stp_move (.inl rfl) rfl) ?_; refine awps_nil ?_; refine thenQ_nil ?_; refine ⟨?_, ?_, ?_⟩
            · skip
              omega
            · skip
              refine ⟨by omega, fun j hj => ?_⟩
              by_cases hjk : j < k
              · exact hp.2 j hjk
              · rw [show j = k by omega]
                first
                  | exact hgood
                  | (rw [hke]; simp; omega)
            exact sub_re (SubT.cons (lk_eq rfl (by first | rfl | simp)) (SubT.cons (lk_eq rfl (by first | rfl | simp)) (SubT.cons (lk_eq rfl (by first | rfl | simp)) (SubT.cons (lk_eq rfl (by first | rfl | simp)) (SubT.nil))))) (SubO.nil) rfl rfl (noL' (noL hL) _)
          have m30 := l30
          try simp only [↓cqA, cqB] at m30
          have hgood : atomK l k = true := by
            have h0 : k = 0 := by omega
            simp only [atomK, hu]; simp [m16, m20, m25, h0]
          refine awp_drawG 23 mixed rfl rfl rfl rfl ?_; refine MGo_c0 rfl (by decide) (.run rfl (stp_load_all rfl tf_api_Term rfl rfl rfl rfl)) ?_; refine MGo_c0 rfl (by decide) (.run rfl (stp_call (avs := [_]) true rfl en_term_May rfl rfl (by have hh := May_ok u huw; rw [l16] at hh; exact hh) (fun _ => rfl) rfl)) ?_; refine MGo_c0 rfl (by decide) (.run rfl (stp_not rfl rfl)) ?_; refine MGo_c0 rfl (by decide) (.run rfl (stp_move (.inl rfl) rfl)) ?_; refine MGo_c0 rfl (by decide) (.want rfl rfl rfl (by decide) (stp_load_all rfl tf_api_Term rfl rfl rfl rfl)) ?_
          refine MGo_c0 rfl (by decide) (.want rfl rfl rfl (by decide) (stp_call (avs := [_]) true rfl en_term_Flat rfl rfl (by have hh := Flat_ok u (mayT_dle m16).1 huw; rw [l20] at hh; exact hh) (fun _ => rfl) rfl)) ?_; refine MGo_c0 rfl (by decide) (.want rfl rfl rfl (by decide) (stp_not rfl rfl)) ?_; refine MGo_c0 rfl (by decide) (.run rfl (stp_pick rfl rfl rfl)) ?_; refine MGo_c0 rfl (by decide) (.run rfl (stp_move (.inl rfl) rfl)) ?_; refine MGo_c0 rfl (by decide) (.want rfl rfl rfl (by decide) (stp_load_all rfl tf_api_Term rfl rfl rfl rfl)) ?_
          refine MGo_c0 rfl (by decide) (.want rfl rfl rfl (by decide) (stp_call (avs := [_]) true rfl en_term_Is rfl rfl (by have hh := Is_ok u huw m16; rw [l25] at hh; exact hh) (fun _ => rfl) rfl)) ?_; refine MGo_c0 rfl (by decide) (.want rfl rfl rfl (by decide) (stp_not rfl rfl)) ?_; refine MGo_c0 rfl (by decide) (.run rfl (stp_pick rfl rfl rfl)) ?_
          refine MGo_c0 rfl (by decide) (.run rfl (stp_move (.inl rfl) rfl)) ?_; refine MGo_c0 rfl (by decide) (.want rfl rfl rfl (by decide) (stp_move (.inl rfl) rfl)) ?_; refine MGo_c0 rfl (by decide) (.want rfl rfl rfl (by decide) (stp_binI (r := .bool false) rfl rfl rfl (congrArg (fun b => some (Value.bool b)) l30))) ?_
          refine MGo_c0 rfl (by decide) (.want rfl rfl rfl (by decide) (stp_move (.inl rfl) rfl)) ?_; refine MGo_c0 rfl (by decide) (.skip rfl rfl rfl (by decide) (by decide)) ?_; refine MGo_c0 rfl (by decide) (.skip rfl rfl rfl (by decide) (by decide)) ?_; refine MGo_c0 rfl (by decide) (.skip rfl rfl rfl (by decide) (by decide)) ?_
          refine MGo_c0 rfl (by decide) (.skip rfl rfl rfl (by decide) (by decide)) ?_; refine MGo_c0 rfl (by decide) (.skip rfl rfl rfl (by decide) (by decide)) ?_; refine MGo_c0 rfl (by decide) (.skip rfl rfl rfl (by decide) (by decide)) ?_; refine MGo_nil ⟨rfl, rfl, ?_⟩; refine awps_gs rfl rfl rfl rfl (by decide) rfl (by decide) ?_
          refine awps_gs rfl rfl rfl rfl (by decide) rfl (by decide) ?_; refine awps_g0 rfl rfl rfl (by decide) rfl (by decide) (stp_pick rfl rfl rfl) ?_; refine awps_stp0 rfl rfl (by decide) (stp_pick rfl rfl rfl) ?_; refine awps_nil ?_; refine thenQ_nil ?_; refine awp_condF rfl ?_; refine awp_skip ?_; refine inQ_nil ?_; refine thenQ_nil ?_; refine awp_region ?_; refine awps_stp0 rfl rfl (by decide) (stp_add rfl rfl rfl (by omega)) ?_; refine awps_stp0 rfl rfl (by decide) (stp_move (.inl rfl) rfl) ?_; refine awps_nil ?_; refine thenQ_nil ?_; refine ⟨?_, ?_, ?_⟩
          · skip
            omega
          · skip
            refine ⟨by omega, fun j hj => ?_⟩
            by_cases hjk : j < k
            · exact hp.2 j hjk
            · rw [show j = k by omega]
              first
                | exact hgood
                | (rw [hke]; simp; omega)
          exact sub_re (SubT.cons (lk_eq rfl (by first | rfl | simp)) (SubT.cons (lk_eq rfl (by first | rfl | simp)) (SubT.cons (lk_eq rfl (by first | rfl | simp)) (SubT.cons (lk_eq rfl (by first | rfl | simp)) (SubT.nil))))) (SubO.nil) rfl rfl (noL' (noL hL) _)
        have m25 := l25
        try simp only [↓cqA, cqB] at m25
        have hbad : atomK l k = false := by simp only [atomK, hu]; simp [m25]
        refine awp_drawG 23 mixed rfl rfl rfl rfl ?_; refine MGo_c0 rfl (by decide) (.run rfl (stp_load_all rfl tf_api_Term rfl rfl rfl rfl)) ?_; refine MGo_c0 rfl (by decide) (.run rfl (stp_call (avs := [_]) true rfl en_term_May rfl rfl (by have hh := May_ok u huw; rw [l16] at hh; exact hh) (fun _ => rfl) rfl)) ?_; refine MGo_c0 rfl (by decide) (.run rfl (stp_not rfl rfl)) ?_; refine MGo_c0 rfl (by decide) (.run rfl (stp_move (.inl rfl) rfl)) ?_; refine MGo_c0 rfl (by decide) (.want rfl rfl rfl (by decide) (stp_load_all rfl tf_api_Term rfl rfl rfl rfl)) ?_
        refine MGo_c0 rfl (by decide) (.want rfl rfl rfl (by decide) (stp_call (avs := [_]) true rfl en_term_Flat rfl rfl (by have hh := Flat_ok u (mayT_dle m16).1 huw; rw [l20] at hh; exact hh) (fun _ => rfl) rfl)) ?_; refine MGo_c0 rfl (by decide) (.want rfl rfl rfl (by decide) (stp_not rfl rfl)) ?_; refine MGo_c0 rfl (by decide) (.run rfl (stp_pick rfl rfl rfl)) ?_; refine MGo_c0 rfl (by decide) (.run rfl (stp_move (.inl rfl) rfl)) ?_; refine MGo_c0 rfl (by decide) (.want rfl rfl rfl (by decide) (stp_load_all rfl tf_api_Term rfl rfl rfl rfl)) ?_
        refine MGo_c0 rfl (by decide) (.want rfl rfl rfl (by decide) (stp_call (avs := [_]) true rfl en_term_Is rfl rfl (by have hh := Is_ok u huw m16; rw [l25] at hh; exact hh) (fun _ => rfl) rfl)) ?_; refine MGo_c0 rfl (by decide) (.want rfl rfl rfl (by decide) (stp_not rfl rfl)) ?_; refine MGo_c0 rfl (by decide) (.run rfl (stp_pick rfl rfl rfl)) ?_
        refine MGo_c0 rfl (by decide) (.run rfl (stp_move (.inl rfl) rfl)) ?_; refine MGo_c0 rfl (by decide) (.skip rfl rfl rfl (by decide) (by decide)) ?_; refine MGo_c0 rfl (by decide) (.skip rfl rfl rfl (by decide) (by decide)) ?_; refine MGo_c0 rfl (by decide) (.skip rfl rfl rfl (by decide) (by decide)) ?_; refine MGo_c0 rfl (by decide) (.skipu rfl rfl rfl (by decide)) ?_
        refine MGo_c0 rfl (by decide) (.skipu rfl rfl rfl (by decide)) ?_; refine MGo_c0 rfl (by decide) (.skipu rfl rfl rfl (by decide)) ?_; refine MGo_c0 rfl (by decide) (.skipu rfl rfl rfl (by decide)) ?_; refine MGo_c0 rfl (by decide) (.skipu rfl rfl rfl (by decide)) ?_; refine MGo_c0 rfl (by decide) (.skipu rfl rfl rfl (by decide)) ?_; refine MGo_nil ⟨rfl, rfl, ?_⟩
        refine awps_gu rfl rfl rfl (by decide) rfl (by decide) ?_; refine awps_gu rfl rfl rfl (by decide) rfl (by decide) ?_; refine awps_gs rfl rfl rfl rfl (by decide) rfl (by decide) ?_; refine awps_stp0 rfl rfl (by decide) (stp_pick rfl rfl rfl) ?_; refine awps_nil ?_; refine thenQ_nil ?_; refine awp_condT rfl ?_; refine awp_seq ?_; refine awp_region ?_; refine awps_stp0 rfl rfl (by decide) (stp_move (.inr rfl) rfl) ?_; refine awps_nil ?_; refine thenQ_nil ?_; refine awp_ret ?_; refine inQ_ret (thenQ_ret (thenQ_ret (inQ_ret (thenQ_ret (?_)))))
        -- leaf 0F1Tl16Tl20Tl25F
        refine ret0 (noL hL) (.inl rfl) (resAs_tmp rfl (resAs_nil)) ?_ ?_
        · rfl
        refine ⟨bool_w ?_, rfl⟩
        first
          | (rw [atomsB, decide_eq_false (by omega)]; rfl)
          | (have hno : atomK l k = false := by
               first
                 | exact hbad
                 | (rw [hke]; simp; omega)
             have : (List.range l.length).all (atomK l) = false := List.all_eq_false.2 ⟨k, List.mem_range.2 (by omega), by simp [hno]⟩
             rw [atomsB, this, Bool.and_false])
          | (have : (List.range l.length).all (atomK l) = true := List.all_eq_true.2 fun j hj => hp.2 j (by have := List.mem_range.1 hj; omega)
             rw [atomsB, this, decide_eq_true (by omega)]; rfl)
      have m20 := l20
      try simp only [↓cqA, cqB] at m20
      have hbad : atomK l k = false := by simp only [atomK, hu]; simp [m20]
      refine awp_drawG 23 mixed rfl rfl rfl rfl ?_; refine MGo_c0 rfl (by decide) (.run rfl (stp_load_all rfl tf_api_Term rfl rfl rfl rfl)) ?_; refine MGo_c0 rfl (by decide) (.run rfl (stp_call (avs := [_]) true rfl en_term_May rfl rfl (by have hh := May_ok u huw; rw [l16] at hh; exact hh) (fun _ => rfl) rfl)) ?_; refine MGo_c0 rfl (by decide) (.run rfl (stp_not rfl rfl)) ?_; refine MGo_c0 rfl (by decide) (.run rfl (stp_move (.inl rfl) rfl)) ?_; refine MGo_c0 rfl (by decide) (.want rfl rfl rfl (by decide) (stp_load_all rfl tf_api_Term rfl rfl rfl rfl)) ?_
      refine MGo_c0 rfl (by decide) (.want rfl rfl rfl (by decide) (stp_call (avs := [_]) true rfl en_term_Flat rfl rfl (by have hh := Flat_ok u (mayT_dle m16).1 huw; rw [l20] at hh; exact hh) (fun _ => rfl) rfl)) ?_; refine MGo_c0 rfl (by decide) (.want rfl rfl rfl (by decide) (stp_not rfl rfl)) ?_; refine MGo_c0 rfl (by decide) (.run rfl (stp_pick rfl rfl rfl)) ?_
      refine MGo_c0 rfl (by decide) (.run rfl (stp_move (.inl rfl) rfl)) ?_; refine MGo_c0 rfl (by decide) (.skip rfl rfl rfl (by decide) (by decide)) ?_; refine MGo_c0 rfl (by decide) (.skip rfl rfl rfl (by decide) (by decide)) ?_; refine MGo_c0 rfl (by decide) (.skip rfl rfl rfl (by decide) (by decide)) ?_; refine MGo_c0 rfl (by decide) (.run rfl (stp_pick rfl rfl rfl)) ?_
      refine MGo_c0 rfl (by decide) (.run rfl (stp_move (.inl rfl) rfl)) ?_; refine MGo_c0 rfl (by decide) (.skip rfl rfl rfl (by decide) (by decide)) ?_; refine MGo_c0 rfl (by decide) (.skip rfl rfl rfl (by decide) (by decide)) ?_; refine MGo_c0 rfl (by decide) (.skip rfl rfl rfl (by decide) (by decide)) ?_; refine MGo_c0 rfl (by decide) (.skipu rfl rfl rfl (by decide)) ?_
      refine MGo_c0 rfl (by decide) (.skipu rfl rfl rfl (by decide)) ?_; refine MGo_c0 rfl (by decide) (.skipu rfl rfl rfl (by decide)) ?_; refine MGo_c0 rfl (by decide) (.skipu rfl rfl rfl (by decide)) ?_; refine MGo_c0 rfl (by decide) (.skipu rfl rfl rfl (by decide)) ?_; refine MGo_c0 rfl (by decide) (.skipu rfl rfl rfl (by decide)) ?_; refine MGo_nil ⟨rfl, rfl, ?_⟩
      refine awps_gu rfl rfl rfl (by decide) rfl (by decide) ?_; refine awps_gu rfl rfl rfl (by decide) rfl (by decide) ?_; refine awps_gs rfl rfl rfl rfl (by decide) rfl (by decide) ?_; refine awps_stp0 rfl rfl (by decide) (stp_pick rfl rfl rfl) ?_; refine awps_nil ?_; refine thenQ_nil ?_; refine awp_condT rfl ?_; refine awp_seq ?_; refine awp_region ?_; refine awps_stp0 rfl rfl (by decide) (stp_move (.inr rfl) rfl) ?_; refine awps_nil ?_; refine thenQ_nil ?_; refine awp_ret ?_; refine inQ_ret (thenQ_ret (thenQ_ret (inQ_ret (thenQ_ret (?_)))))
      -- leaf 0F1Tl16Tl20F
      refine ret0 (noL hL) (.inl rfl) (resAs_tmp rfl (resAs_nil)) ?_ ?_
      · rfl
      refine ⟨bool_w ?_, rfl⟩
      first
        | (rw [atomsB, decide_eq_false (by omega)]; rfl)
        | (have hno : atomK l k = false := by
             first
               | exact hbad
               | (rw [hke]; simp; omega)
           have : (List.range l.length).all (atomK l) = false := List.all_eq_false.2 ⟨k, List.mem_range.2 (by omega), by simp [hno]⟩
           rw [atomsB, this, Bool.and_false])
        | (have : (List.range l.length).all (atomK l) = true := List.all_eq_true.2 fun j hj => hp.2 j (by have := List.mem_range.1 hj; omega)
           rw [atomsB, this, decide_eq_true (by omega)]; rfl)
    have m16 := l16
    try simp only [↓cqA, cqB] at m16
    have hbad : atomK l k = false := by simp only [atomK, hu]; simp [m16]
    refine awp_drawG 23 mixed rfl rfl rfl rfl ?_; refine MGo_c0 rfl (by decide) (.run rfl (stp_load_all rfl tf_api_Term rfl rfl rfl rfl)) ?_; refine MGo_c0 rfl (by decide) (.run rfl (stp_call (avs := [_]) true rfl en_term_May rfl rfl (by have hh := May_ok u huw; rw [l16] at hh; exact hh) (fun _ => rfl) rfl)) ?_; refine MGo_c0 rfl (by decide) (.run rfl (stp_not rfl rfl)) ?_; refine MGo_c0 rfl (by decide) (.run rfl (stp_move (.inl rfl) rfl)) ?_; refine MGo_c0 rfl (by decide) (.skip rfl rfl rfl (by decide) (by decide)) ?_
    refine MGo_c0 rfl (by decide) (.skip rfl rfl rfl (by decide) (by decide)) ?_; refine MGo_c0 rfl (by decide) (.skip rfl rfl rfl (by decide) (by decide)) ?_; refine MGo_c0 rfl (by decide) (.run rfl (stp_pick rfl rfl rfl)) ?_; refine MGo_c0 rfl (by decide) (.run rfl (stp_move (.inl rfl) rfl)) ?_; refine MGo_c0 rfl (by decide) (.skip rfl rfl rfl (by decide) (by decide)) ?_
    refine MGo_c0 rfl (by decide) (.skip rfl rfl rfl (by decide) (by decide)) ?_; refine MGo_c0 rfl (by decide) (.skip rfl rfl rfl (by decide) (by decide)) ?_; refine MGo_c0 rfl (by decide) (.run rfl (stp_pick rfl rfl rfl)) ?_; refine MGo_c0 rfl (by decide) (.run rfl (stp_move (.inl rfl) rfl)) ?_; refine MGo_c0 rfl (by decide) (.skip rfl rfl rfl (by decide) (by decide)) ?_
    refine MGo_c0 rfl (by decide) (.skip rfl rfl rfl (by decide) (by decide)) ?_; refine MGo_c0 rfl (by decide) (.skip rfl rfl rfl (by decide) (by decide)) ?_; refine MGo_c0 rfl (by decide) (.skipu rfl rfl rfl (by decide)) ?_; refine MGo_c0 rfl (by decide) (.skipu rfl rfl rfl (by decide)) ?_; refine MGo_c0 rfl (by decide) (.skipu rfl rfl rfl (by decide)) ?_
    refine MGo_c0 rfl (by decide) (.skipu rfl rfl rfl (by decide)) ?_; refine MGo_c0 rfl (by decide) (.skipu rfl rfl rfl (by decide)) ?_; refine MGo_c0 rfl (by decide) (.skipu rfl rfl rfl (by decide)) ?_; refine MGo_nil ⟨rfl, rfl, ?_⟩; refine awps_gu rfl rfl rfl (by decide) rfl (by decide) ?_; refine awps_gu rfl rfl rfl (by decide) rfl (by decide) ?_
    refine awps_gs rfl rfl rfl rfl (by decide) rfl (by decide) ?_; refine awps_stp0 rfl rfl (by decide) (stp_pick rfl rfl rfl) ?_; refine awps_nil ?_; refine thenQ_nil ?_; refine awp_condT rfl ?_; refine awp_seq ?_; refine awp_region ?_; refine awps_stp0 rfl rfl (by decide) (stp_move (.inr rfl) rfl) ?_; refine awps_nil ?_; refine thenQ_nil ?_; refine awp_ret ?_; refine inQ_ret (thenQ_ret (thenQ_ret (inQ_ret (thenQ_ret (?_)))))
    -- leaf 0F1Tl16F
    refine ret0 (noL hL) (.inl rfl) (resAs_tmp rfl (resAs_nil)) ?_ ?_
    · rfl
    refine ⟨bool_w ?_, rfl⟩
    first
      | (rw [atomsB, decide_eq_false (by omega)]; rfl)
      | (have hno : atomK l k = false := by
           first
             | exact hbad
             | (rw [hke]; simp; omega)
         have : (List.range l.length).all (atomK l) = false := List.all_eq_false.2 ⟨k, List.mem_range.2 (by omega), by simp [hno]⟩
         rw [atomsB, this, Bool.and_false])
      | (have : (List.range l.length).all (atomK l) = true := List.all_eq_true.2 fun j hj => hp.2 j (by have := List.mem_range.1 hj; omega)
         rw [atomsB, this, decide_eq_true (by omega)]; rfl)
  try simp only [↓cqA, cqB] at c1
  refine awp_exit ?_; refine thenQ_exit (thenQ_exit (inQ_hit ?_)); refine thenQ_nil ?_; refine awp_seq ?_; refine awp_region ?_; refine awps_stp0 rfl rfl (by decide) (stp_move (.inr rfl) rfl) ?_; refine awps_nil ?_; refine thenQ_nil ?_; refine awp_ret ?_
  -- leaf 0F1F
  refine ret0 (noL hL) (.inl rfl) (resAs_tmp rfl (resAs_nil)) ?_ ?_
  · rfl
  refine ⟨bool_w ?_, rfl⟩
  first
    | (rw [atomsB, decide_eq_false (by omega)]; rfl)
    | (have hno : atomK l k = false := by
         first
           | exact hbad
           | (rw [hke]; simp; omega)
       have : (List.range l.length).all (atomK l) = false := List.all_eq_false.2 ⟨k, List.mem_range.2 (by omega), by simp [hno]⟩
       rw [atomsB, this, Bool.and_false])
    | (have : (List.range l.length).all (atomK l) = true := List.all_eq_true.2 fun j hj => hp.2 j (by have := List.mem_range.1 hj; omega)
       rw [atomsB, this, decide_eq_true (by omega)]; rfl)
end Go.Proofs.YtdecgkhdbfgldaaGreat

set_option linter.unusedVariables false
set_option linter.unusedSimpArgs false
set_option maxRecDepth 8000
namespace Go.Proofs.YtdecgkhdbfgldaaGreat
open Go
def u8 (n : Int) : UInt8 := UInt8.ofNat (n % 256).toNat
theorem wrap_u8 (n : Int) : IntKind.u8.wrap n = ((u8 n).toNat : Int) := by
  have h1 : 0 ≤ n % 256 := Int.emod_nonneg _ (by decide)
  have h2 : n % 256 < 256 := Int.emod_lt_of_pos _ (by decide)
  have e : IntKind.u8.wrap n = n % 256 := by
    simp [IntKind.wrap, IntKind.signed, IntKind.bits]
  rw [e, u8, UInt8.toNat_ofNat']
  omega
def kq (n : Int) : Int := IntKind.u32.wrap (IntKind.i32.wrap n)
def keyL : Nat → Tm → List UInt8
  | 0, _ => []
  | d + 1, t => [u8 t.kind, u8 t.name.size] ++ t.name.data.toList ++ [u8 (kq t.n / 2 ^ min (24 : Int).toNat IntKind.u32.bits), u8 (kq t.n / 2 ^ min (16 : Int).toNat IntKind.u32.bits), u8 (kq t.n / 2 ^ min (8 : Int).toNat IntKind.u32.bits), u8 (kq t.n), u8 t.args.length] ++ (t.args.map (keyL d)).flatten
theorem shp_name {t : Tm} (h : t.shp) : t.name.size ≤ 16 := by
  have hw : ∀ p, wordB p t.name = true → t.name.size ≤ 16 := fun p hp => by
    simp only [wordB, Bool.and_eq_true, decide_eq_true_eq] at hp
    exact hp.1.1.2
  rcases ((Tm.shp_iff t).1 h).1 with ⟨_, h, _⟩ | ⟨_, _, h, _⟩ | ⟨_, h, _⟩
  · exact hw _ h
  · omega
  · exact hw _ h
theorem keyL_len : ∀ (d : Nat) (t : Tm), t.shp → (keyL d t).length ≤ 23 * t.sz
  | 0, t, _ => by simp [keyL]
  | d + 1, t, h => by
    have hn := shp_name h
    have e : t.name.data.toList.length = t.name.size := by simp
    have key : ∀ l : List Tm, (∀ u ∈ l, u.shp) → (l.map (keyL d)).flatten.length ≤ 23 * (l.map Tm.sz).sum := fun l => by
      induction l with
      | nil => intro _; simp
      | cons a l ih =>
        intro hl
        have h1 := ih fun u hu => hl u (by simp [hu])
        have h2 := keyL_len d a (hl a (by simp))
        simp only [List.map_cons, List.flatten_cons, List.length_append, List.sum_cons]
        omega
    have h3 := key t.args fun u hu => h.arg hu
    rw [Tm.sz_eq, keyL]
    simp only [List.length_append, List.length_cons, List.length_nil, e]
    omega
theorem Key_ok : ∀ (d : Nat) (t : Tm), dle d t → t.shp → t.wf → t.sz ≤ 1000 → PF 195 [tmA false t] (sv ⟨(keyL d t).toArray⟩)
  | 0, t, h, _, _, _ => h.elim
  | d + 1, t, h, hs, ht, hz => by
    have hlen := tmDs_length t.args
    have hal : t.args.length ≤ 4 := by
      rcases ((Tm.shp_iff t).1 hs).1 with ⟨_, _, _, e⟩ | ⟨_, _, _, e⟩ | ⟨_, _, _, e⟩ <;> simp_all
    have hnm := shp_name hs
    have hkl := keyL_len (d + 1) t hs
    have hk2 : (keyL (d + 1) t).length = 7 + t.name.size + ((t.args.map (keyL d)).flatten).length := by
      have e : t.name.data.toList.length = t.name.size := by simp
      rw [keyL]; simp only [List.length_append, List.length_cons, List.length_nil, e]; omega
    have e8 : ∀ l : List UInt8, (ByteArray.mk l.toArray).size = l.length := fun l => by simp [ByteArray.size]
    refine AC_intro Tryz.func195 rfl Tryz.ntmps195 (Nat.le_of_ble_eq_true rfl) fun c hL hQ hDD => ?_; refine awp_seq ?_; refine awp_region ?_; refine awps_stp1 rfl rfl (by decide) (stp_box 1 rfl rfl rfl) rfl ?_; refine awps_stp0 rfl rfl (by decide) (stp_move (.inr rfl) rfl) ?_; refine awps_nil ?_; refine thenQ_nil ?_; refine awp_seq ?_; refine awp_region ?_; refine awps_stp0 rfl rfl (by decide) (stp_fieldAddr rfl fo_api_Term_0 rfl) ?_; refine awps_stp0 rfl rfl (by decide) (stp_load rfl tf_int rfl rfl rfl rfl rfl) ?_; refine awps_stp0 rfl rfl (by decide) (stp_conv rfl us_int ul_uint8 rfl) ?_
    refine awps_stp0 rfl rfl (by decide) (stp_fieldAddr rfl fo_api_Term_1 rfl) ?_; refine awps_stp0 rfl rfl (by decide) (stp_load rfl tf_string rfl rfl rfl rfl rfl) ?_; refine awps_stp0 rfl rfl (by decide) (stp_len_str rfl ul_string rfl) ?_; refine awps_stp0 rfl rfl (by decide) (stp_conv rfl us_int ul_uint8 rfl) ?_
    rw [wrap_u8, wrap_u8]
    refine awps_stp1 rfl rfl (by decide) (stp_buildSlice 14 rfl sl_S_uint8 zv_uint8 rfl rfl (by decide) (by decide) (by decide) rfl rfl rfl) rfl ?_; refine awps_rowd 14 false 2 rfl rfl rfl rfl ?_; refine awps_stp0 rfl rfl (by decide) (stp_move (.inr rfl) rfl) ?_; refine awps_nil ?_; refine thenQ_nil ?_; refine awp_seq ?_; refine awp_region ?_; refine awps_stp0 rfl rfl (by decide) (stp_move (.inl rfl) rfl) ?_; refine awps_stp0 rfl rfl (by decide) (stp_fieldAddr rfl fo_api_Term_1 rfl) ?_; refine awps_stp0 rfl rfl (by decide) (stp_load rfl tf_string rfl rfl rfl rfl rfl) ?_
    refine awps_append_str 18 ta_S_uint8 (by kernel_rfl) ul_string rfl rfl (by decide) rfl rfl rfl (noL hL _) rfl rfl (by simp [chunk]; omega) ?_; refine awps_stp0 rfl rfl (by decide) (stp_move (.inr rfl) rfl) ?_; refine awps_nil ?_; refine thenQ_nil ?_; refine awp_seq ?_; refine awp_region ?_; refine awps_stp0 rfl rfl (by decide) (stp_fieldAddr rfl fo_api_Term_2 rfl) ?_; refine awps_stp0 rfl rfl (by decide) (stp_load rfl tf_int rfl rfl rfl rfl rfl) ?_
    refine awps_stp0 rfl rfl (by decide) (stp_conv rfl us_int ul_int32 rfl) ?_; refine awps_stp0 rfl rfl (by decide) (stp_conv rfl us_int32 ul_uint32 rfl) ?_; refine awps_stp0 rfl rfl (by decide) (stp_move (.inr rfl) rfl) ?_; refine awps_nil ?_; refine thenQ_nil ?_; refine awp_seq ?_; refine awp_region ?_; refine awps_stp0 rfl rfl (by decide) (stp_move (.inl rfl) rfl) ?_
    refine awps_stp0 rfl rfl (by decide) (stp_move (.inl rfl) rfl) ?_; refine awps_stp0 rfl rfl (by decide) (stp_shr rfl rfl rfl (by decide)) ?_; refine awps_stp0 rfl rfl (by decide) (stp_conv rfl us_uint32 ul_uint8 rfl) ?_; refine awps_stp0 rfl rfl (by decide) (stp_move (.inl rfl) rfl) ?_; refine awps_stp0 rfl rfl (by decide) (stp_shr rfl rfl rfl (by decide)) ?_
    refine awps_stp0 rfl rfl (by decide) (stp_conv rfl us_uint32 ul_uint8 rfl) ?_; refine awps_stp0 rfl rfl (by decide) (stp_move (.inl rfl) rfl) ?_; refine awps_stp0 rfl rfl (by decide) (stp_shr rfl rfl rfl (by decide)) ?_; refine awps_stp0 rfl rfl (by decide) (stp_conv rfl us_uint32 ul_uint8 rfl) ?_; refine awps_stp0 rfl rfl (by decide) (stp_move (.inl rfl) rfl) ?_; refine awps_stp0 rfl rfl (by decide) (stp_conv rfl us_uint32 ul_uint8 rfl) ?_; refine awps_stp0 rfl rfl (by decide) (stp_fieldAddr rfl fo_api_Term_3 rfl) ?_
    refine awps_stp0 rfl rfl (by decide) (stp_load rfl tf_S_api_Term rfl rfl rfl rfl rfl) ?_; refine awps_stp0 rfl rfl (by decide) (stp_len_dat rfl sl_S_api_Term rfl) ?_; refine awps_stp0 rfl rfl (by decide) (stp_conv rfl us_int ul_uint8 rfl) ?_
    simp only [wrap_u8]
    refine awps_stp1 rfl rfl (by decide) (stp_buildSlice 39 rfl sl_S_uint8 zv_uint8 rfl rfl (by decide) (by decide) (by decide) rfl rfl rfl) rfl ?_; refine awps_rowd 39 false 5 rfl rfl rfl rfl ?_; refine awps_append_src 40 ta_S_uint8 rfl rfl (by decide) rfl rfl rfl (src_rowd rfl rfl) rfl (fun d hd => by simp only [chunk, List.take, List.drop, List.mem_cons, List.not_mem_nil, or_false] at hd; rcases hd with rfl | rfl | rfl | rfl | rfl <;> rfl) (noL hL _) rfl (by simp [chunk, btL_length]; omega) rfl ?_; refine awps_stp0 rfl rfl (by decide) (stp_move (.inr rfl) rfl) ?_
    refine awps_nil ?_; refine thenQ_nil ?_; refine awp_seq ?_; refine awp_seq ?_; refine awp_region ?_; refine awps_stp0 rfl rfl (by decide) (stp_fieldAddr rfl fo_api_Term_3 rfl) ?_; refine awps_stp0 rfl rfl (by decide) (stp_load rfl tf_S_api_Term rfl rfl rfl rfl rfl) ?_; refine awps_stp0 rfl rfl (by decide) (stp_len_dat rfl sl_S_api_Term rfl) ?_; refine awps_stp0 rfl rfl (by decide) (stp_move (.inl rfl) rfl) ?_; refine awps_nil ?_; refine thenQ_nil ?_; refine awp_block ?_
    refine awp_while (t.args.length) (fun k => k ≤ t.args.length) (fun k => ⟨[(3, .row 3), (42, .dat false 4 (tmDs t.args)), (43, iv (tmDs t.args).length), (44, iv (k : Int))], [(3, .rowd 5 1 false (btL ([u8 t.kind, u8 t.name.size] ++ t.name.data.toList ++ [u8 (kq t.n / 2 ^ min (24 : Int).toNat IntKind.u32.bits), u8 (kq t.n / 2 ^ min (16 : Int).toNat IntKind.u32.bits), u8 (kq t.n / 2 ^ min (8 : Int).toNat IntKind.u32.bits), u8 (kq t.n), u8 t.args.length] ++ ((t.args.take k).map (keyL d)).flatten)))]⟩) (by omega) ?_ (fun k hk hp => ?_)
    · exact Sub.trans (sub_rename 40 3 (noL hL _) (noL hL _)) (sub_re (SubT.cons (lk_eq rfl (by first | rfl | simp)) (SubT.cons (lk_eq rfl (by first | rfl | simp)) (SubT.cons (lk_eq rfl (by first | rfl | simp)) (SubT.cons (lk_eq rfl (by first | rfl | simp)) (SubT.nil))))) (SubO.cons (ok_eq rfl (by simp [btL, chunk, hlen]; rfl)) (SubO.nil)) rfl rfl (noL' (noL hL) _))
    have hfl := flat_le (t.args.map (keyL d)) k
    rw [← List.map_take] at hfl
    have hbl := btL_length ([u8 t.kind, u8 t.name.size] ++ t.name.data.toList ++ [u8 (kq t.n / 2 ^ min (24 : Int).toNat IntKind.u32.bits), u8 (kq t.n / 2 ^ min (16 : Int).toNat IntKind.u32.bits), u8 (kq t.n / 2 ^ min (8 : Int).toNat IntKind.u32.bits), u8 (kq t.n), u8 t.args.length] ++ ((t.args.take k).map (keyL d)).flatten)
    have hbl2 : ([u8 t.kind, u8 t.name.size] ++ t.name.data.toList ++ [u8 (kq t.n / 2 ^ min (24 : Int).toNat IntKind.u32.bits), u8 (kq t.n / 2 ^ min (16 : Int).toNat IntKind.u32.bits), u8 (kq t.n / 2 ^ min (8 : Int).toNat IntKind.u32.bits), u8 (kq t.n), u8 t.args.length] ++ ((t.args.take k).map (keyL d)).flatten).length = 7 + t.name.size + (((t.args.take k).map (keyL d)).flatten).length := by
      have e : t.name.data.toList.length = t.name.size := by simp
      simp only [List.length_append, List.length_cons, List.length_nil, e]; omega
    refine awp_seq ?_; refine awp_region ?_; refine awps_stp0 rfl rfl (by decide) (stp_binI rfl rfl rfl rfl) ?_; refine awps_nil ?_; refine thenQ_nil ?_; refine awp_seq ?_; refine awp_cond rfl (fun c0 => ?_) (fun c0 => ?_)
    · try simp only [↓cqA, cqB] at c0
      obtain ⟨u, hu⟩ := get_of_lt (l := t.args) (k := k) (by omega)
      have hum := List.mem_of_getElem? hu
      have husz : u.sz ≤ t.sz := by
        have := sum_split (l := t.args) (k := k) (u := u) Tm.sz hu
        rw [Tm.sz_eq t]; omega
      have hul := keyL_len d u (hs.arg hum)
      have hue := e8 (keyL d u)
      refine awp_skip ?_; refine thenQ_nil ?_; refine awp_seq ?_; refine awp_block ?_; refine awp_seq ?_; refine awp_region ?_; refine awps_stp0 rfl rfl (by decide) (stp_indexAddr rfl sl_S_api_Term rfl rfl (by omega) (tmDs_get hu)) ?_; refine awps_stp0 rfl rfl (by decide) (stp_load_elpa rfl tf_api_Term rfl rfl) ?_
      refine awps_stp1 rfl rfl (by decide) (stp_alloc 6 rfl zv_api_Term rfl) rfl ?_; refine awps_store rfl rfl rfl tf_api_Term rfl rfl rfl rfl rfl rfl rfl rfl rfl ?_; refine awps_nil ?_; refine thenQ_nil ?_; refine awp_region ?_; refine awps_stp0 rfl rfl (by decide) (stp_move (.inl rfl) rfl) ?_; refine awps_stp0 rfl rfl (by decide) (stp_load_all rfl tf_api_Term rfl rfl rfl rfl) ?_
      refine awps_call (avs := [_]) true rfl rfl rfl (by decide) en_term_Key rfl rfl (Key_ok d u (h u hum) (hs.arg hum) (Tm.wfs_mem ht.2.2.2.2 hum) (by omega)) rfl rfl ?_; refine awps_append_str 51 ta_S_uint8 (by kernel_rfl) ul_string rfl rfl (by decide) rfl rfl rfl (noL hL _) rfl rfl (by omega) ?_; refine awps_stp0 rfl rfl (by decide) (stp_move (.inr rfl) rfl) ?_; refine awps_nil ?_
      refine inQ_nil ?_; refine thenQ_nil ?_; refine awp_region ?_; refine awps_stp0 rfl rfl (by decide) (stp_add rfl rfl rfl (by omega)) ?_; refine awps_stp0 rfl rfl (by decide) (stp_move (.inl rfl) rfl) ?_; refine awps_nil ?_; refine thenQ_nil ?_; refine ⟨?_, ?_, ?_⟩
      · skip
        omega
      · skip
        omega
      exact Sub.trans (sub_rename 51 3 (noL hL _) (noL hL _)) (sub_re (SubT.cons (lk_eq rfl (by first | rfl | simp)) (SubT.cons (lk_eq rfl (by first | rfl | simp)) (SubT.cons (lk_eq rfl (by first | rfl | simp)) (SubT.cons (lk_eq rfl (by first | rfl | simp)) (SubT.nil))))) (SubO.cons (ok_eq rfl (by rw [take_snoc hu, List.map_append, List.flatten_append]; simp [btL]; rfl)) (SubO.nil)) rfl rfl (noL' (noL hL) _))
    try simp only [↓cqA, cqB] at c0
    refine awp_exit ?_; refine thenQ_exit (thenQ_exit (inQ_hit ?_)); refine thenQ_nil ?_; refine awp_seq ?_; refine awp_region ?_; refine awps_stp0 rfl rfl (by decide) (stp_move (.inl rfl) rfl) ?_; refine awps_stp0 rfl rfl (by decide) (stp_conv_bytes rfl (by kernel_rfl) ul_uint8 ul_string rfl rfl) ?_; refine awps_stp0 rfl rfl (by decide) (stp_move (.inr rfl) rfl) ?_; refine awps_nil ?_; refine thenQ_nil ?_; refine awp_ret ?_
    -- leaf 0F
    refine ret0 (noL hL) (.inl rfl) (resAs_tmp rfl (resAs_nil)) ?_ ?_
    · rfl
    refine ⟨?_, rfl⟩
    rw [List.take_of_length_le (by omega), keyL]; rfl
end Go.Proofs.YtdecgkhdbfgldaaGreat
