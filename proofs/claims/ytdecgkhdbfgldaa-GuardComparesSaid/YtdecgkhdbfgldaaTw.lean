/- What almagestlaw0's TermWeight tells. -/
import Derived.Test.YtdecgkhdbfgldaaTy
import Derived.Test.YtdecgkhdbfgldaaSymM
import Derived.Test.YtdecgkhdbfgldaaDat
set_option linter.unusedVariables false
set_option linter.unusedSimpArgs false
namespace Go.Proofs.Ytdecgkhdbfgldaa
open Go

def wgtL {α : Type} (f : α → Int) : Int → List α → Int
  | n, [] => n
  | n, a :: l => if n < 1048576 then wgtL f (n + f a) l else n
def wgt : Nat → Tm → Int
  | 0, _ => 1048576
  | d + 1, t => wgtL (wgt d) (1 + t.name.size) t.args

theorem wgtL_ge {α : Type} (f : α → Int) (h : ∀ t, 0 ≤ f t) : ∀ (n : Int) (l : List α), 0 ≤ n → n ≤ wgtL f n l
  | n, [], h0 => by simp [wgtL]
  | n, a :: l, h0 => by
    simp only [wgtL]
    split
    · have := wgtL_ge f h (n + f a) l (by have := h a; omega)
      have := h a; omega
    · omega
theorem wgt_ge : ∀ (d : Nat) (t : Tm), 0 ≤ wgt d t
  | 0, _ => by simp [wgt]
  | d + 1, t => by
    simp only [wgt]
    have := wgtL_ge _ (wgt_ge d) (1 + t.name.size) t.args (by omega)
    omega
theorem wgtL_le {α : Type} (f : α → Int) (B : Int) (hB : 0 ≤ B) : ∀ (n : Int) (l : List α), (∀ t ∈ l, f t ≤ B) → n ≤ 140737488351233 + B → wgtL f n l ≤ 140737488351233 + B
  | n, [], _, h0 => h0
  | n, a :: l, h, h0 => by
    simp only [wgtL]
    split
    · exact wgtL_le f B hB _ l (fun t ht => h t (by simp [ht])) (by have := h a (by simp); omega)
    · exact h0
theorem wgt_le : ∀ (d : Nat) (t : Tm), t.wf → wgt d t ≤ 140737488351233 * (d + 1)
  | 0, t, _ => by simp [wgt]
  | d + 1, t, h => by
    simp only [wgt]
    have := wgtL_le (wgt d) (140737488351233 * (d + 1)) (by omega) (1 + t.name.size) t.args (fun u hu => by
      obtain ⟨i, hi⟩ := List.getElem?_of_mem hu
      exact wgt_le d u (Tm.wfs_get h.2.2.2.2 hi)) (by have := h.2.1; omega)
    push_cast at this ⊢
    omega

theorem wgtL_stop {α : Type} (f : α → Int) (n : Int) (l : List α) (h : ¬ n < 1048576) : wgtL f n l = n := by
  cases l with
  | nil => rfl
  | cons a l => simp [wgtL, h]
theorem wgtL_take {α : Type} (f : α → Int) (n : Int) (l : List α) (k : Nat) (hk : k ≤ l.length) (h : ∀ j, j < k → wgtL f n (l.take j) < 1048576) : wgtL f n l = wgtL f (wgtL f n (l.take k)) (l.drop k) := by
  induction k generalizing n l with
  | zero => simp [wgtL]
  | succ k ih =>
    cases l with
    | nil => simp at hk
    | cons a l =>
      have h0 : n < 1048576 := by have := h 0 (by omega); simpa [wgtL] using this
      simp only [List.take_succ_cons, List.drop_succ_cons, wgtL, if_pos h0]
      refine ih _ l (by simpa using hk) fun j hj => ?_
      have := h (j + 1) (by omega)
      simpa [wgtL, h0] using this
theorem wgtL_snoc {α : Type} (f : α → Int) (n : Int) (l : List α) (a : α) (h : ∀ j, j ≤ l.length → wgtL f n (l.take j) < 1048576) : wgtL f n (l ++ [a]) = wgtL f n l + f a := by
  have h1 := wgtL_take f n (l ++ [a]) l.length (by simp) (fun j hj => by
    have := h j (by omega)
    rwa [List.take_append_of_le_length (by omega)])
  have h2 := h l.length (Nat.le_refl _)
  simp only [List.take_length] at h2
  simp only [List.take_left, List.drop_left] at h1
  rw [h1]
  simp [wgtL, h2]
theorem take_snoc {α : Type} {l : List α} {k : Nat} {a : α} (h : l[k]? = some a) : l.take (k + 1) = l.take k ++ [a] := by
  rw [List.take_add_one, h]; rfl
theorem get_of_lt {α : Type} {l : List α} {k : Nat} (h : k < l.length) : ∃ a, l[k]? = some a := ⟨l[k], by simp [h]⟩

set_option maxRecDepth 4000 in
theorem TermWeight_ok : ∀ (d : Nat), d ≤ 30 → ∀ (e : Int), e = d → ∀ t : Tm, t.wf → AC Try.prog 54 [tmA false t, .imm (.int .i64 e)] [] (fun r O => r = .imm (.int .i64 (wgt d t)) ∧ O = []) := by
  intro d
  induction d with
  | zero =>
    intro hd e he t ht
    have hnm := ht.2.1
    have hal := ht.2.2.2.1
    have hlen := tmDs_length t.args
    refine AC_intro Try.func54 rfl Try.ntmps54 (Nat.le_of_ble_eq_true rfl) fun c hL => ?_
    refine awp_seq ?_
    refine awp_region ?_
    refine awps_stp1 rfl rfl (by decide) (stp_box 2 rfl rfl rfl) rfl ?_
    refine awps_stp0 rfl rfl (by decide) (stp_move (.inr rfl) rfl) ?_
    refine awps_nil ?_
    refine thenQ_nil ?_
    refine awp_seq ?_
    refine awp_region ?_
    first | refine awps_stp0 rfl rfl (by decide) (stp_fieldAddr rfl fo_api_Term_1 rfl) ?_ | refine awps_stp0 rfl rfl (by decide) (stp_fieldAddr_elp rfl fo_api_Term_1 rfl) ?_
    first | refine awps_stp0 rfl rfl (by decide) (stp_load rfl tf_string rfl rfl rfl rfl rfl) ?_ | refine awps_stp0 rfl rfl (by decide) (stp_load_elp1 rfl tf_string rfl) ?_ | refine awps_stp0 rfl rfl (by decide) (stp_load_elpn rfl tf_string rfl rfl rfl) ?_
    refine awps_stp0 rfl rfl (by decide) (stp_len_str rfl ul_string rfl) ?_
    refine awps_stp0 rfl rfl (by decide) (stp_add rfl rfl rfl (by omega)) ?_
    refine awps_stp0 rfl rfl (by decide) (stp_move (.inr rfl) rfl) ?_
    refine awps_nil ?_
    refine thenQ_nil ?_
    refine awp_seq ?_
    refine awp_seq ?_
    refine awp_region ?_
    refine awps_stp0 rfl rfl (by decide) (stp_move (.inl rfl) rfl) ?_
    refine awps_stp0 rfl rfl (by decide) (stp_binI rfl rfl rfl rfl) ?_
    refine awps_nil ?_
    refine thenQ_nil ?_
    refine awp_cond rfl (fun c0 => ?_) (fun c0 => ?_)
    · try simp only [↓str_beq_t, ↓str_beq_f, decide_eq_true_eq, decide_eq_false_iff_not, Bool.not_eq_true', Bool.not_eq_false', Int.not_lt, Int.not_le, beq_iff_eq, beq_eq_false_iff_ne, bne_iff_ne, bne_eq_false_iff_eq, ne_eq] at c0
      refine awp_seq ?_
      refine awp_region ?_
      refine awps_stp0 rfl rfl (by decide) (stp_move (.inr rfl) rfl) ?_
      refine awps_nil ?_
      refine thenQ_nil ?_
      refine awp_ret ?_
      refine thenQ_ret (?_)
      -- leaf 0T
      refine ret0 (noL hL) (.inl rfl) (resAs_tmp rfl (resAs_nil)) ?_ ?_
      · rfl
      exact ⟨rfl, rfl⟩
    try simp only [↓str_beq_t, ↓str_beq_f, decide_eq_true_eq, decide_eq_false_iff_not, Bool.not_eq_true', Bool.not_eq_false', Int.not_lt, Int.not_le, beq_iff_eq, beq_eq_false_iff_ne, bne_iff_ne, bne_eq_false_iff_eq, ne_eq] at c0
    omega
  | succ d ih =>
    intro hd e he t ht
    have hnm := ht.2.1
    have hal := ht.2.2.2.1
    have hlen := tmDs_length t.args
    refine AC_intro Try.func54 rfl Try.ntmps54 (Nat.le_of_ble_eq_true rfl) fun c hL => ?_
    refine awp_seq ?_
    refine awp_region ?_
    refine awps_stp1 rfl rfl (by decide) (stp_box 2 rfl rfl rfl) rfl ?_
    refine awps_stp0 rfl rfl (by decide) (stp_move (.inr rfl) rfl) ?_
    refine awps_nil ?_
    refine thenQ_nil ?_
    refine awp_seq ?_
    refine awp_region ?_
    first | refine awps_stp0 rfl rfl (by decide) (stp_fieldAddr rfl fo_api_Term_1 rfl) ?_ | refine awps_stp0 rfl rfl (by decide) (stp_fieldAddr_elp rfl fo_api_Term_1 rfl) ?_
    first | refine awps_stp0 rfl rfl (by decide) (stp_load rfl tf_string rfl rfl rfl rfl rfl) ?_ | refine awps_stp0 rfl rfl (by decide) (stp_load_elp1 rfl tf_string rfl) ?_ | refine awps_stp0 rfl rfl (by decide) (stp_load_elpn rfl tf_string rfl rfl rfl) ?_
    refine awps_stp0 rfl rfl (by decide) (stp_len_str rfl ul_string rfl) ?_
    refine awps_stp0 rfl rfl (by decide) (stp_add rfl rfl rfl (by omega)) ?_
    refine awps_stp0 rfl rfl (by decide) (stp_move (.inr rfl) rfl) ?_
    refine awps_nil ?_
    refine thenQ_nil ?_
    refine awp_seq ?_
    refine awp_seq ?_
    refine awp_region ?_
    refine awps_stp0 rfl rfl (by decide) (stp_move (.inl rfl) rfl) ?_
    refine awps_stp0 rfl rfl (by decide) (stp_binI rfl rfl rfl rfl) ?_
    refine awps_nil ?_
    refine thenQ_nil ?_
    refine awp_cond rfl (fun c0 => ?_) (fun c0 => ?_)
    · try simp only [↓str_beq_t, ↓str_beq_f, decide_eq_true_eq, decide_eq_false_iff_not, Bool.not_eq_true', Bool.not_eq_false', Int.not_lt, Int.not_le, beq_iff_eq, beq_eq_false_iff_ne, bne_iff_ne, bne_eq_false_iff_eq, ne_eq] at c0
      omega
    try simp only [↓str_beq_t, ↓str_beq_f, decide_eq_true_eq, decide_eq_false_iff_not, Bool.not_eq_true', Bool.not_eq_false', Int.not_lt, Int.not_le, beq_iff_eq, beq_eq_false_iff_ne, bne_iff_ne, bne_eq_false_iff_eq, ne_eq] at c0
    refine awp_skip ?_
    refine thenQ_nil ?_
    refine awp_seq ?_
    refine awp_seq ?_
    refine awp_region ?_
    refine awps_stp0 rfl rfl (by decide) (stp_move (.inr rfl) rfl) ?_
    refine awps_nil ?_
    refine thenQ_nil ?_
    refine awp_block ?_
    refine awp_while (t.args.length) (fun k => k ≤ t.args.length ∧ ∀ j, j < k → wgtL (wgt d) (1 + t.name.size) (t.args.take j) < 1048576) (fun k => ⟨[(1, .imm (.int .i64 e)), (2, .ptr 2 0), (5, .imm (.int .i64 (wgtL (wgt d) (1 + t.name.size) (t.args.take k)))), (6, .imm (.int .i64 (k : Int)))], [(2, .box (lift false (tmD t)))]⟩) (⟨by omega, fun j hj => absurd hj (by omega)⟩) ?_ (fun k hk hp => ?_)
    · exact sub_re (SubT.cons (lk_eq rfl (by first | rfl | simp)) (SubT.cons (lk_eq rfl (by first | rfl | simp)) (SubT.cons (lk_eq rfl (by simp [wgtL])) (SubT.cons (lk_eq rfl (by first | rfl | simp)) (SubT.nil))))) (SubO.cons (ok_eq rfl (by rfl)) (SubO.nil)) rfl rfl (noL' (noL hL) _)
    have hw : wgtL (wgt d) (1 + t.name.size) (t.args.take k) ≤ 140737488351233 + 140737488351233 * (d + 1) := wgtL_le (wgt d) _ (by omega) _ _ (fun u hu => wgt_le d u (by
      obtain ⟨i, hi⟩ := List.getElem?_of_mem (List.mem_of_mem_take hu)
      exact Tm.wfs_get ht.2.2.2.2 hi)) (by omega)
    have hw0 := wgtL_ge (wgt d) (wgt_ge d) (1 + t.name.size) (t.args.take k) (by omega)
    refine awp_seq ?_
    refine awp_seq ?_
    refine awp_region ?_
    refine awps_stp0 rfl rfl (by decide) (stp_move (.inl rfl) rfl) ?_
    first | refine awps_stp0 rfl rfl (by decide) (stp_fieldAddr rfl fo_api_Term_3 rfl) ?_ | refine awps_stp0 rfl rfl (by decide) (stp_fieldAddr_elp rfl fo_api_Term_3 rfl) ?_
    first | refine awps_stp0 rfl rfl (by decide) (stp_load rfl tf_S_api_Term rfl rfl rfl rfl rfl) ?_ | refine awps_stp0 rfl rfl (by decide) (stp_load_elp1 rfl tf_S_api_Term rfl) ?_ | refine awps_stp0 rfl rfl (by decide) (stp_load_elpn rfl tf_S_api_Term rfl rfl rfl) ?_
    first | refine awps_stp0 rfl rfl (by decide) (stp_len_dat rfl sl_S_api_Term rfl) ?_ | refine awps_stp0 rfl rfl (by decide) (stp_len_rowd rfl sl_S_api_Term rfl rfl) ?_ | refine awps_stp0 rfl rfl (by decide) (stp_len_nil rfl sl_S_api_Term rfl) ?_
    refine awps_stp0 rfl rfl (by decide) (stp_binI rfl rfl rfl rfl) ?_
    refine awps_stp0 rfl rfl (by decide) (stp_move (.inl rfl) rfl) ?_
    refine awps_split 18 rfl (fun g18 => ?_) (fun g18 => ?_)
    · try simp only [↓str_beq_t, ↓str_beq_f, decide_eq_true_eq, decide_eq_false_iff_not, Bool.not_eq_true', Bool.not_eq_false', Int.not_lt, Int.not_le, beq_iff_eq, beq_eq_false_iff_ne, bne_iff_ne, bne_eq_false_iff_eq, ne_eq] at g18
      obtain ⟨u, hu⟩ := get_of_lt (l := t.args) (k := k) (by omega)
      have huw := wgt_le d u (Tm.wfs_get ht.2.2.2.2 hu)
      have huw0 := wgt_ge d u
      refine awps_g0 rfl rfl rfl (by decide) rfl (by decide) (stp_move (.inl rfl) rfl) ?_
      refine awps_g0 rfl rfl rfl (by decide) rfl (by decide) (stp_binI rfl rfl rfl rfl) ?_
      refine awps_stp0 rfl rfl (by decide) (stp_pick rfl rfl rfl) ?_
      refine awps_nil ?_
      refine thenQ_nil ?_
      refine awp_cond rfl (fun c1 => ?_) (fun c1 => ?_)
      · try simp only [↓str_beq_t, ↓str_beq_f, decide_eq_true_eq, decide_eq_false_iff_not, Bool.not_eq_true', Bool.not_eq_false', Int.not_lt, Int.not_le, beq_iff_eq, beq_eq_false_iff_ne, bne_iff_ne, bne_eq_false_iff_eq, ne_eq] at c1
        refine awp_skip ?_
        refine thenQ_nil ?_
        refine awp_seq ?_
        refine awp_block ?_
        refine awp_region ?_
        refine awps_stp0 rfl rfl (by decide) (stp_move (.inl rfl) rfl) ?_
        first | refine awps_stp0 rfl rfl (by decide) (stp_fieldAddr rfl fo_api_Term_3 rfl) ?_ | refine awps_stp0 rfl rfl (by decide) (stp_fieldAddr_elp rfl fo_api_Term_3 rfl) ?_
        first | refine awps_stp0 rfl rfl (by decide) (stp_load rfl tf_S_api_Term rfl rfl rfl rfl rfl) ?_ | refine awps_stp0 rfl rfl (by decide) (stp_load_elp1 rfl tf_S_api_Term rfl) ?_ | refine awps_stp0 rfl rfl (by decide) (stp_load_elpn rfl tf_S_api_Term rfl rfl rfl) ?_
        refine awps_stp0 rfl rfl (by decide) (stp_move (.inl rfl) rfl) ?_
        first | refine awps_stp0 rfl rfl (by decide) (stp_indexAddr rfl sl_S_api_Term rfl rfl (by omega) (tmDs_get hu)) ?_ | refine awps_stp0 rfl rfl (by decide) (stp_indexAddr_rowd rfl sl_S_api_Term rfl rfl rfl (by omega) (tmDs_get hu)) ?_ | refine awps_stp0 rfl rfl (by decide) (stp_indexAddr_row rfl sl_S_api_Term rfl rfl rfl (by omega) (tmDs_get hu) (by decide)) ?_
        first | refine awps_stp0 rfl rfl (by decide) (stp_load_all rfl tf_api_Term rfl rfl rfl rfl) ?_ | refine awps_stp0 rfl rfl (by decide) (stp_load rfl tf_api_Term rfl rfl rfl rfl rfl) ?_ | refine awps_stp0 rfl rfl (by decide) (stp_load_elpa rfl tf_api_Term rfl rfl) ?_ | refine awps_stp0 rfl rfl (by decide) (stp_load_elpn rfl tf_api_Term rfl rfl rfl) ?_
        refine awps_stp0 rfl rfl (by decide) (stp_move (.inl rfl) rfl) ?_
        refine awps_stp0 rfl rfl (by decide) (stp_sub rfl rfl rfl (by omega)) ?_
        refine awps_call (avs := [_, _]) true rfl rfl rfl (by decide) en_almagestlaw0_TermWeight rfl rfl (ih (by omega) _ (by omega) u (Tm.wfs_get ht.2.2.2.2 hu)) rfl rfl ?_
        refine awps_stp0 rfl rfl (by decide) (stp_add rfl rfl rfl (by omega)) ?_
        refine awps_stp0 rfl rfl (by decide) (stp_move (.inr rfl) rfl) ?_
        refine awps_nil ?_
        refine inQ_nil ?_
        refine thenQ_nil ?_
        refine awp_region ?_
        refine awps_stp0 rfl rfl (by decide) (stp_move (.inl rfl) rfl) ?_
        refine awps_stp0 rfl rfl (by decide) (stp_add rfl rfl rfl (by omega)) ?_
        refine awps_stp0 rfl rfl (by decide) (stp_move (.inr rfl) rfl) ?_
        refine awps_nil ?_
        have hb := wgtL_snoc (wgt d) (1 + t.name.size) (t.args.take k) u (fun j hj => by
          by_cases hjk : j < k
          · have := hp.2 j hjk; rwa [List.take_take, Nat.min_eq_left (by omega)]
          · rw [List.take_of_length_le (by simp; omega)]; omega)
        rw [← take_snoc hu] at hb
        refine thenQ_nil ?_
        refine ⟨?_, ?_, ?_⟩
        · skip
          omega
        · skip
          refine ⟨by omega, fun j hj => ?_⟩
          by_cases hjk : j < k
          · exact hp.2 j hjk
          · rw [show j = k by omega]; omega
        exact sub_re (SubT.cons (lk_eq rfl (by first | rfl | simp)) (SubT.cons (lk_eq rfl (by first | rfl | simp)) (SubT.cons (lk_eq rfl (by exact int_imm hb.symm)) (SubT.cons (lk_eq rfl (by first | rfl | simp)) (SubT.nil))))) (SubO.cons (ok_eq rfl (by rfl)) (SubO.nil)) rfl rfl (noL' (noL hL) _)
      try simp only [↓str_beq_t, ↓str_beq_f, decide_eq_true_eq, decide_eq_false_iff_not, Bool.not_eq_true', Bool.not_eq_false', Int.not_lt, Int.not_le, beq_iff_eq, beq_eq_false_iff_ne, bne_iff_ne, bne_eq_false_iff_eq, ne_eq] at c1
      refine awp_exit ?_
      refine thenQ_exit (thenQ_exit (inQ_hit ?_))
      refine thenQ_nil ?_
      refine awp_seq ?_
      refine awp_region ?_
      refine awps_stp0 rfl rfl (by decide) (stp_move (.inl rfl) rfl) ?_
      refine awps_stp0 rfl rfl (by decide) (stp_move (.inr rfl) rfl) ?_
      refine awps_nil ?_
      refine thenQ_nil ?_
      refine awp_ret ?_
      -- leaf 0Fg18T1F
      refine ret0 (noL hL) (.inl rfl) (resAs_tmp rfl (resAs_nil)) ?_ ?_
      · rfl
      refine ⟨int_w ?_, rfl⟩
      rw [wgt]; exact ((wgtL_take (wgt d) _ _ k hp.1 hp.2).trans (wgtL_stop _ _ _ (by omega))).symm
    try simp only [↓str_beq_t, ↓str_beq_f, decide_eq_true_eq, decide_eq_false_iff_not, Bool.not_eq_true', Bool.not_eq_false', Int.not_lt, Int.not_le, beq_iff_eq, beq_eq_false_iff_ne, bne_iff_ne, bne_eq_false_iff_eq, ne_eq] at g18
    refine awps_gs rfl rfl rfl rfl (by decide) rfl (by decide) ?_
    refine awps_gs rfl rfl rfl rfl (by decide) rfl (by decide) ?_
    refine awps_stp0 rfl rfl (by decide) (stp_pick rfl rfl rfl) ?_
    refine awps_nil ?_
    refine thenQ_nil ?_
    refine awp_condF rfl ?_
    refine awp_exit ?_
    refine thenQ_exit (thenQ_exit (inQ_hit ?_))
    refine thenQ_nil ?_
    refine awp_seq ?_
    refine awp_region ?_
    refine awps_stp0 rfl rfl (by decide) (stp_move (.inl rfl) rfl) ?_
    refine awps_stp0 rfl rfl (by decide) (stp_move (.inr rfl) rfl) ?_
    refine awps_nil ?_
    refine thenQ_nil ?_
    refine awp_ret ?_
    -- leaf 0Fg18F
    refine ret0 (noL hL) (.inl rfl) (resAs_tmp rfl (resAs_nil)) ?_ ?_
    · rfl
    refine ⟨int_w ?_, rfl⟩
    rw [wgt, List.take_of_length_le (by omega)]
end Go.Proofs.Ytdecgkhdbfgldaa
