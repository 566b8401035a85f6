/- Walks: order and equality of terms; comparisons. -/
import Derived.Test.YtdecgkhdbfgldaaFg
set_option linter.unusedVariables false
set_option linter.unusedSimpArgs false
set_option maxRecDepth 8000
namespace Go.Proofs.Ytdecgkhdbfgldaa
open Go

theorem cmpBytes_less : ∀ a b : List UInt8, Lib.compareBytes a b = if Op.bytesLess a b = true then -1 else if a = b then 0 else 1
  | [], [] => by simp [Lib.compareBytes, Op.bytesLess]
  | [], _ :: _ => by simp [Lib.compareBytes, Op.bytesLess]
  | _ :: _, [] => by simp [Lib.compareBytes, Op.bytesLess]
  | a :: l, b :: m => by
    have ih := cmpBytes_less l m
    simp only [Lib.compareBytes, Op.bytesLess]
    by_cases h1 : a < b
    · simp [h1]
    · by_cases h2 : b < a
      · have : a ≠ b := fun e => by subst e; exact h1 h2
        simp [h1, h2, this]
      · have : a = b := by
          rcases Nat.lt_trichotomy a.toNat b.toNat with h | h | h
          · exact absurd (UInt8.lt_iff_toNat_lt.2 h) h1
          · exact UInt8.toNat_inj.1 h
          · exact absurd (UInt8.lt_iff_toNat_lt.2 h) h2
        subst this
        simp [h1, ih]
theorem cmpS_eq (a b : ByteArray) : cmpS a b = if ltS a b = true then -1 else if a = b then 0 else 1 := by
  unfold cmpS ltS
  rw [cmpBytes_less, ByteArray.toList_eq, ByteArray.toList_eq]
  have : a.data.toList = b.data.toList ↔ a = b := by rw [← ByteArray.toList_eq, ← ByteArray.toList_eq]; exact toList_inj
  simp only [this]

theorem rtext_ok (x y : ByteArray) : PF 95 [sv x, sv y] (iv (cmpS x y)) := by
  refine AC_intro Try.func95 rfl Try.ntmps95 (Nat.le_of_ble_eq_true rfl) fun c hL => ?_
  refine awp_seq ?_
  refine awp_region ?_
  refine awps_stp0 rfl rfl (by decide) (stp_move (.inr rfl) rfl) ?_
  refine awps_nil ?_
  refine thenQ_nil ?_
  refine awp_seq ?_
  refine awp_block ?_
  refine awp_seq ?_
  refine awp_region ?_
  refine awps_stp0 rfl rfl (by decide) (stp_move (.inl rfl) rfl) ?_
  refine awps_stp0 rfl rfl (by decide) (stp_move (.inl rfl) rfl) ?_
  refine awps_stp0 rfl rfl (by decide) (stp_binS rfl rfl rfl rfl) ?_
  refine awps_stp0 rfl rfl (by decide) (stp_move (.inr rfl) rfl) ?_
  refine awps_nil ?_
  refine thenQ_nil ?_
  refine awp_cond rfl (fun c0 => ?_) (fun c0 => ?_)
  · try simp only [↓str_beq_t, ↓str_beq_f, decide_eq_true_eq, decide_eq_false_iff_not, Bool.not_eq_true', Bool.not_eq_false', Int.not_lt, Int.not_le, beq_iff_eq, beq_eq_false_iff_ne, bne_iff_ne, bne_eq_false_iff_eq, ne_eq] at c0
    refine awp_seq ?_
    refine awp_region ?_
    refine awps_stp0 rfl rfl (by decide) (stp_move (.inr rfl) rfl) ?_
    refine awps_nil ?_
    refine thenQ_nil ?_
    refine awp_ret ?_
    refine inQ_ret (thenQ_ret (?_))
    -- leaf 0T
    refine ret0 (noL hL) (.inl rfl) (resAs_tmp rfl (resAs_nil)) ?_ ?_
    · rfl
    refine ⟨int_w ?_, rfl⟩
    rw [cmpS_eq, if_pos (show ltS x y = true from c0)]
  try simp only [↓str_beq_t, ↓str_beq_f, decide_eq_true_eq, decide_eq_false_iff_not, Bool.not_eq_true', Bool.not_eq_false', Int.not_lt, Int.not_le, beq_iff_eq, beq_eq_false_iff_ne, bne_iff_ne, bne_eq_false_iff_eq, ne_eq] at c0
  refine awp_seq ?_
  refine awp_region ?_
  refine awps_stp0 rfl rfl (by decide) (stp_move (.inl rfl) rfl) ?_
  refine awps_stp0 rfl rfl (by decide) (stp_move (.inl rfl) rfl) ?_
  refine awps_stp0 rfl rfl (by decide) (stp_binS rfl rfl rfl rfl) ?_
  refine awps_stp0 rfl rfl (by decide) (stp_move (.inr rfl) rfl) ?_
  refine awps_nil ?_
  refine thenQ_nil ?_
  refine awp_cond rfl (fun c1 => ?_) (fun c1 => ?_)
  · try simp only [↓str_beq_t, ↓str_beq_f, decide_eq_true_eq, decide_eq_false_iff_not, Bool.not_eq_true', Bool.not_eq_false', Int.not_lt, Int.not_le, beq_iff_eq, beq_eq_false_iff_ne, bne_iff_ne, bne_eq_false_iff_eq, ne_eq] at c1
    refine awp_seq ?_
    refine awp_region ?_
    refine awps_stp0 rfl rfl (by decide) (stp_move (.inr rfl) rfl) ?_
    refine awps_nil ?_
    refine thenQ_nil ?_
    refine awp_ret ?_
    refine inQ_ret (thenQ_ret (?_))
    -- leaf 0F1T
    refine ret0 (noL hL) (.inl rfl) (resAs_tmp rfl (resAs_nil)) ?_ ?_
    · rfl
    refine ⟨int_w ?_, rfl⟩
    simp only [Bool.or_eq_false_iff] at c1
    rw [cmpS_eq, if_neg (show ¬ ltS x y = true by rw [show ltS x y = false from c0]; simp), if_neg (by intro h; have := c1.2; simp [h] at this)]
  try simp only [↓str_beq_t, ↓str_beq_f, decide_eq_true_eq, decide_eq_false_iff_not, Bool.not_eq_true', Bool.not_eq_false', Int.not_lt, Int.not_le, beq_iff_eq, beq_eq_false_iff_ne, bne_iff_ne, bne_eq_false_iff_eq, ne_eq] at c1
  refine awp_skip ?_
  refine inQ_nil ?_
  refine thenQ_nil ?_
  refine awp_seq ?_
  refine awp_region ?_
  refine awps_stp0 rfl rfl (by decide) (stp_move (.inr rfl) rfl) ?_
  refine awps_nil ?_
  refine thenQ_nil ?_
  refine awp_ret ?_
  -- leaf 0F1F
  refine ret0 (noL hL) (.inl rfl) (resAs_tmp rfl (resAs_nil)) ?_ ?_
  · rfl
  refine ⟨int_w ?_, rfl⟩
  have c0' : Op.bytesLess x.toList y.toList = false := c0
  rw [c0'] at c1
  simp only [Bool.false_or, str_beq_t] at c1
  rw [cmpS_eq, if_neg (show ¬ ltS x y = true by rw [show ltS x y = false from c0]; simp), if_pos c1]

/-- Order, as the page has it. -/
def ordL (f : Tm → Tm → Int) : Int → List Tm → List Tm → Int
  | n, a :: l, b :: m => if n = 0 then ordL f (f a b) l m else n
  | n, _, _ => n
def ordT : Nat → Tm → Tm → Int
  | 0, _, _ => 0
  | d + 1, a, b =>
    if a.kind ≠ b.kind then cmpI a.kind b.kind
    else if a.kind = 1 then cmpS a.name b.name
    else if a.kind = 2 then cmpI a.n b.n
    else ordL (ordT d) (if cmpI a.args.length b.args.length = 0 then cmpS a.name b.name else cmpI a.args.length b.args.length) a.args b.args
theorem ordL_take (f : Tm → Tm → Int) : ∀ (k : Nat) (n : Int) (l m : List Tm), k ≤ l.length → k ≤ m.length → (∀ j, j < k → ordL f n (l.take j) (m.take j) = 0) → ordL f n l m = ordL f (ordL f n (l.take k) (m.take k)) (l.drop k) (m.drop k)
  | 0, n, l, m, _, _, _ => by simp [ordL]
  | k + 1, n, [], m, h, _, _ => by simp at h
  | k + 1, n, l, [], _, h, _ => by simp at h
  | k + 1, n, a :: l, b :: m, h1, h2, h => by
    have h0 : n = 0 := by have := h 0 (by omega); simpa [ordL] using this
    simp only [List.take_succ_cons, List.drop_succ_cons, ordL, if_pos h0]
    refine ordL_take f k _ l m (by simpa using h1) (by simpa using h2) fun j hj => ?_
    have := h (j + 1) (by omega)
    simpa [ordL, h0] using this
theorem ordL_stop (f : Tm → Tm → Int) (n : Int) (l m : List Tm) (h : ¬ n = 0) : ordL f n l m = n := by
  cases l <;> cases m <;> simp [ordL, h]
theorem ordL_snoc (f : Tm → Tm → Int) (n : Int) (l m : List Tm) (a b : Tm) (hl : l.length = m.length) (h : ∀ j, j ≤ l.length → ordL f n (l.take j) (m.take j) = 0) : ordL f n (l ++ [a]) (m ++ [b]) = f a b := by
  have h1 := ordL_take f l.length n (l ++ [a]) (m ++ [b]) (by simp) (by simp; omega) (fun j hj => by
    have := h j (by omega)
    rwa [List.take_append_of_le_length (by omega), List.take_append_of_le_length (by omega)])
  have h2 := h l.length (Nat.le_refl _)
  rw [h1]
  simp only [List.take_left, List.drop_left]
  rw [hl, List.take_left, List.drop_left]
  rw [List.take_length, hl, List.take_length] at h2
  rw [h2]
  simp [ordL]
theorem ordL_nil (f : Tm → Tm → Int) (n : Int) (l m : List Tm) (h : l = [] ∨ m = []) : ordL f n l m = n := by
  rcases h with rfl | rfl
  · cases m <;> rfl
  · cases l <;> rfl
theorem ordL_fin (f : Tm → Tm → Int) (n : Int) (l m : List Tm) (k : Nat) (hk : k ≤ l.length) (h : ∀ j, j < k → ordL f n (l.take j) (m.take j) = 0) (he : k = l.length ∨ ¬ ordL f n (l.take k) (m.take k) = 0) (hn : n = 0 → l.length = m.length) : ordL f n (l.take k) (m.take k) = ordL f n l m := by
  by_cases h0 : k = 0
  · subst h0
    simp only [List.take_zero] at he ⊢
    rw [ordL_nil f n [] [] (.inl rfl)] at he ⊢
    rcases he with he | he
    · rw [ordL_nil f n l m (.inl (List.eq_nil_of_length_eq_zero he.symm))]
    · exact (ordL_stop f n l m he).symm
  · have hz := h 0 (by omega)
    simp only [List.take_zero] at hz
    rw [ordL_nil f n [] [] (.inl rfl)] at hz
    have hl := hn hz
    rcases he with he | he
    · rw [List.take_of_length_le (by omega), List.take_of_length_le (by omega)]
    · exact ((ordL_take f k n l m hk (by omega) h).trans (ordL_stop f _ _ _ he)).symm
theorem Order_ok : ∀ (d : Nat) (a b : Tm), dle d a → a.wf → b.wf → PF 58 [tmA false a, tmA false b] (iv (ordT d a b))
  | 0, a, b, h, _, _ => h.elim
  | d + 1, a, b, h, ha, hb => by
    have h1 := ha.2.2.2.1
    have h2 := hb.2.2.2.1
    have hla := tmDs_length a.args
    have hlb := tmDs_length b.args
    have hcl : cmpI a.args.length b.args.length = 0 → a.args.length = b.args.length := fun h => by
      simp only [cmpI] at h
      split at h
      · cases h
      · split at h
        · cases h
        · omega
    let n0 : Int := if cmpI a.args.length b.args.length = 0 then cmpS a.name b.name else cmpI a.args.length b.args.length
    have hn0 : n0 = 0 → a.args.length = b.args.length := fun hz => hcl (by
      by_cases hq : cmpI a.args.length b.args.length = 0
      · exact hq
      · simpa only [n0, if_neg hq] using hz)
    refine AC_intro Try.func58 rfl Try.ntmps58 (Nat.le_of_ble_eq_true rfl) fun c hL => ?_
    refine awp_seq ?_
    refine awp_region ?_
    refine awps_stp1 rfl rfl (by decide) (stp_box 2 rfl rfl rfl) rfl ?_
    refine awps_stp1 rfl rfl (by decide) (stp_box 3 rfl rfl rfl) rfl ?_
    refine awps_stp0 rfl rfl (by decide) (stp_move (.inr rfl) rfl) ?_
    refine awps_nil ?_
    refine thenQ_nil ?_
    refine awp_seq ?_
    refine awp_seq ?_
    refine awp_region ?_
    first | refine awps_stp0 rfl rfl (by decide) (stp_fieldAddr rfl fo_api_Term_0 rfl) ?_ | refine awps_stp0 rfl rfl (by decide) (stp_fieldAddr_elp rfl fo_api_Term_0 rfl) ?_
    first | refine awps_stp0 rfl rfl (by decide) (stp_load rfl tf_int rfl rfl rfl rfl rfl) ?_ | refine awps_stp0 rfl rfl (by decide) (stp_load_elp1 rfl tf_int rfl) ?_ | refine awps_stp0 rfl rfl (by decide) (stp_load_elpn rfl tf_int rfl rfl rfl) ?_
    first | refine awps_stp0 rfl rfl (by decide) (stp_fieldAddr rfl fo_api_Term_0 rfl) ?_ | refine awps_stp0 rfl rfl (by decide) (stp_fieldAddr_elp rfl fo_api_Term_0 rfl) ?_
    first | refine awps_stp0 rfl rfl (by decide) (stp_load rfl tf_int rfl rfl rfl rfl rfl) ?_ | refine awps_stp0 rfl rfl (by decide) (stp_load_elp1 rfl tf_int rfl) ?_ | refine awps_stp0 rfl rfl (by decide) (stp_load_elpn rfl tf_int rfl rfl rfl) ?_
    refine awps_stp0 rfl rfl (by decide) (stp_binI rfl rfl rfl rfl) ?_
    refine awps_nil ?_
    refine thenQ_nil ?_
    refine awp_cond rfl (fun c0 => ?_) (fun c0 => ?_)
    · try simp only [↓str_beq_t, ↓str_beq_f, decide_eq_true_eq, decide_eq_false_iff_not, Bool.not_eq_true', Bool.not_eq_false', Int.not_lt, Int.not_le, beq_iff_eq, beq_eq_false_iff_ne, bne_iff_ne, bne_eq_false_iff_eq, ne_eq] at c0
      refine awp_seq ?_
      refine awp_region ?_
      first | refine awps_stp0 rfl rfl (by decide) (stp_fieldAddr rfl fo_api_Term_0 rfl) ?_ | refine awps_stp0 rfl rfl (by decide) (stp_fieldAddr_elp rfl fo_api_Term_0 rfl) ?_
      first | refine awps_stp0 rfl rfl (by decide) (stp_load rfl tf_int rfl rfl rfl rfl rfl) ?_ | refine awps_stp0 rfl rfl (by decide) (stp_load_elp1 rfl tf_int rfl) ?_ | refine awps_stp0 rfl rfl (by decide) (stp_load_elpn rfl tf_int rfl rfl rfl) ?_
      first | refine awps_stp0 rfl rfl (by decide) (stp_fieldAddr rfl fo_api_Term_0 rfl) ?_ | refine awps_stp0 rfl rfl (by decide) (stp_fieldAddr_elp rfl fo_api_Term_0 rfl) ?_
      first | refine awps_stp0 rfl rfl (by decide) (stp_load rfl tf_int rfl rfl rfl rfl rfl) ?_ | refine awps_stp0 rfl rfl (by decide) (stp_load_elp1 rfl tf_int rfl) ?_ | refine awps_stp0 rfl rfl (by decide) (stp_load_elpn rfl tf_int rfl rfl rfl) ?_
      refine awps_call (avs := [_, _]) true rfl rfl rfl (by decide) en_almagestref1_sign rfl rfl (rsign_ok _ _) rfl rfl ?_
      refine awps_stp0 rfl rfl (by decide) (stp_move (.inr rfl) rfl) ?_
      refine awps_nil ?_
      refine thenQ_nil ?_
      refine awp_ret ?_
      refine thenQ_ret (?_)
      -- leaf 0T
      refine ret0 (noL hL) (.inl rfl) (resAs_tmp rfl (resAs_nil)) ?_ ?_
      · rfl
      exact ⟨int_w (by rw [ordT, if_pos c0]), rfl⟩
    try simp only [↓str_beq_t, ↓str_beq_f, decide_eq_true_eq, decide_eq_false_iff_not, Bool.not_eq_true', Bool.not_eq_false', Int.not_lt, Int.not_le, beq_iff_eq, beq_eq_false_iff_ne, bne_iff_ne, bne_eq_false_iff_eq, ne_eq] at c0
    refine awp_skip ?_
    refine thenQ_nil ?_
    refine awp_seq ?_
    refine awp_region ?_
    refine awps_stp0 rfl rfl (by decide) (stp_move (.inr rfl) rfl) ?_
    refine awps_nil ?_
    refine thenQ_nil ?_
    refine awp_seq ?_
    refine awp_seq ?_
    refine awp_region ?_
    first | refine awps_stp0 rfl rfl (by decide) (stp_fieldAddr rfl fo_api_Term_0 rfl) ?_ | refine awps_stp0 rfl rfl (by decide) (stp_fieldAddr_elp rfl fo_api_Term_0 rfl) ?_
    first | refine awps_stp0 rfl rfl (by decide) (stp_load rfl tf_int rfl rfl rfl rfl rfl) ?_ | refine awps_stp0 rfl rfl (by decide) (stp_load_elp1 rfl tf_int rfl) ?_ | refine awps_stp0 rfl rfl (by decide) (stp_load_elpn rfl tf_int rfl rfl rfl) ?_
    refine awps_nil ?_
    refine thenQ_nil ?_
    refine awp_block ?_
    refine awp_seq ?_
    refine awp_region ?_
    refine awps_stp0 rfl rfl (by decide) (stp_binI rfl rfl rfl rfl) ?_
    refine awps_stp0 rfl rfl (by decide) (stp_move (.inr rfl) rfl) ?_
    refine awps_nil ?_
    refine thenQ_nil ?_
    refine awp_cond rfl (fun c1 => ?_) (fun c1 => ?_)
    · try simp only [↓str_beq_t, ↓str_beq_f, decide_eq_true_eq, decide_eq_false_iff_not, Bool.not_eq_true', Bool.not_eq_false', Int.not_lt, Int.not_le, beq_iff_eq, beq_eq_false_iff_ne, bne_iff_ne, bne_eq_false_iff_eq, ne_eq] at c1
      refine awp_seq ?_
      refine awp_region ?_
      first | refine awps_stp0 rfl rfl (by decide) (stp_fieldAddr rfl fo_api_Term_1 rfl) ?_ | refine awps_stp0 rfl rfl (by decide) (stp_fieldAddr_elp rfl fo_api_Term_1 rfl) ?_
      first | refine awps_stp0 rfl rfl (by decide) (stp_load rfl tf_string rfl rfl rfl rfl rfl) ?_ | refine awps_stp0 rfl rfl (by decide) (stp_load_elp1 rfl tf_string rfl) ?_ | refine awps_stp0 rfl rfl (by decide) (stp_load_elpn rfl tf_string rfl rfl rfl) ?_
      first | refine awps_stp0 rfl rfl (by decide) (stp_fieldAddr rfl fo_api_Term_1 rfl) ?_ | refine awps_stp0 rfl rfl (by decide) (stp_fieldAddr_elp rfl fo_api_Term_1 rfl) ?_
      first | refine awps_stp0 rfl rfl (by decide) (stp_load rfl tf_string rfl rfl rfl rfl rfl) ?_ | refine awps_stp0 rfl rfl (by decide) (stp_load_elp1 rfl tf_string rfl) ?_ | refine awps_stp0 rfl rfl (by decide) (stp_load_elpn rfl tf_string rfl rfl rfl) ?_
      refine awps_call (avs := [_, _]) true rfl rfl rfl (by decide) en_almagestref1_text rfl rfl (rtext_ok _ _) rfl rfl ?_
      refine awps_stp0 rfl rfl (by decide) (stp_move (.inr rfl) rfl) ?_
      refine awps_nil ?_
      refine thenQ_nil ?_
      refine awp_ret ?_
      refine inQ_ret (thenQ_ret (?_))
      -- leaf 0F1T
      refine ret0 (noL hL) (.inl rfl) (resAs_tmp rfl (resAs_nil)) ?_ ?_
      · rfl
      exact ⟨int_w (by rw [ordT, if_neg (by simp [c0]), if_pos c1]), rfl⟩
    try simp only [↓str_beq_t, ↓str_beq_f, decide_eq_true_eq, decide_eq_false_iff_not, Bool.not_eq_true', Bool.not_eq_false', Int.not_lt, Int.not_le, beq_iff_eq, beq_eq_false_iff_ne, bne_iff_ne, bne_eq_false_iff_eq, ne_eq] at c1
    refine awp_seq ?_
    refine awp_region ?_
    refine awps_stp0 rfl rfl (by decide) (stp_binI rfl rfl rfl rfl) ?_
    refine awps_stp0 rfl rfl (by decide) (stp_move (.inr rfl) rfl) ?_
    refine awps_nil ?_
    refine thenQ_nil ?_
    refine awp_cond rfl (fun c2 => ?_) (fun c2 => ?_)
    · try simp only [↓str_beq_t, ↓str_beq_f, decide_eq_true_eq, decide_eq_false_iff_not, Bool.not_eq_true', Bool.not_eq_false', Int.not_lt, Int.not_le, beq_iff_eq, beq_eq_false_iff_ne, bne_iff_ne, bne_eq_false_iff_eq, ne_eq] at c2
      refine awp_seq ?_
      refine awp_region ?_
      first | refine awps_stp0 rfl rfl (by decide) (stp_fieldAddr rfl fo_api_Term_2 rfl) ?_ | refine awps_stp0 rfl rfl (by decide) (stp_fieldAddr_elp rfl fo_api_Term_2 rfl) ?_
      first | refine awps_stp0 rfl rfl (by decide) (stp_load rfl tf_int rfl rfl rfl rfl rfl) ?_ | refine awps_stp0 rfl rfl (by decide) (stp_load_elp1 rfl tf_int rfl) ?_ | refine awps_stp0 rfl rfl (by decide) (stp_load_elpn rfl tf_int rfl rfl rfl) ?_
      first | refine awps_stp0 rfl rfl (by decide) (stp_fieldAddr rfl fo_api_Term_2 rfl) ?_ | refine awps_stp0 rfl rfl (by decide) (stp_fieldAddr_elp rfl fo_api_Term_2 rfl) ?_
      first | refine awps_stp0 rfl rfl (by decide) (stp_load rfl tf_int rfl rfl rfl rfl rfl) ?_ | refine awps_stp0 rfl rfl (by decide) (stp_load_elp1 rfl tf_int rfl) ?_ | refine awps_stp0 rfl rfl (by decide) (stp_load_elpn rfl tf_int rfl rfl rfl) ?_
      refine awps_call (avs := [_, _]) true rfl rfl rfl (by decide) en_almagestref1_sign rfl rfl (rsign_ok _ _) rfl rfl ?_
      refine awps_stp0 rfl rfl (by decide) (stp_move (.inr rfl) rfl) ?_
      refine awps_nil ?_
      refine thenQ_nil ?_
      refine awp_ret ?_
      refine inQ_ret (thenQ_ret (?_))
      -- leaf 0F1F2T
      refine ret0 (noL hL) (.inl rfl) (resAs_tmp rfl (resAs_nil)) ?_ ?_
      · rfl
      exact ⟨int_w (by rw [ordT, if_neg (by simp [c0]), if_neg c1, if_pos c2]), rfl⟩
    try simp only [↓str_beq_t, ↓str_beq_f, decide_eq_true_eq, decide_eq_false_iff_not, Bool.not_eq_true', Bool.not_eq_false', Int.not_lt, Int.not_le, beq_iff_eq, beq_eq_false_iff_ne, bne_iff_ne, bne_eq_false_iff_eq, ne_eq] at c2
    refine awp_skip ?_
    refine inQ_nil ?_
    refine thenQ_nil ?_
    refine awp_seq ?_
    refine awp_region ?_
    first | refine awps_stp0 rfl rfl (by decide) (stp_fieldAddr rfl fo_api_Term_3 rfl) ?_ | refine awps_stp0 rfl rfl (by decide) (stp_fieldAddr_elp rfl fo_api_Term_3 rfl) ?_
    first | refine awps_stp0 rfl rfl (by decide) (stp_load rfl tf_S_api_Term rfl rfl rfl rfl rfl) ?_ | refine awps_stp0 rfl rfl (by decide) (stp_load_elp1 rfl tf_S_api_Term rfl) ?_ | refine awps_stp0 rfl rfl (by decide) (stp_load_elpn rfl tf_S_api_Term rfl rfl rfl) ?_
    first | refine awps_stp0 rfl rfl (by decide) (stp_len_dat rfl sl_S_api_Term rfl) ?_ | refine awps_stp0 rfl rfl (by decide) (stp_len_rowd rfl sl_S_api_Term rfl rfl) ?_ | refine awps_stp0 rfl rfl (by decide) (stp_len_nil rfl sl_S_api_Term rfl) ?_
    first | refine awps_stp0 rfl rfl (by decide) (stp_fieldAddr rfl fo_api_Term_3 rfl) ?_ | refine awps_stp0 rfl rfl (by decide) (stp_fieldAddr_elp rfl fo_api_Term_3 rfl) ?_
    first | refine awps_stp0 rfl rfl (by decide) (stp_load rfl tf_S_api_Term rfl rfl rfl rfl rfl) ?_ | refine awps_stp0 rfl rfl (by decide) (stp_load_elp1 rfl tf_S_api_Term rfl) ?_ | refine awps_stp0 rfl rfl (by decide) (stp_load_elpn rfl tf_S_api_Term rfl rfl rfl) ?_
    first | refine awps_stp0 rfl rfl (by decide) (stp_len_dat rfl sl_S_api_Term rfl) ?_ | refine awps_stp0 rfl rfl (by decide) (stp_len_rowd rfl sl_S_api_Term rfl rfl) ?_ | refine awps_stp0 rfl rfl (by decide) (stp_len_nil rfl sl_S_api_Term rfl) ?_
    refine awps_call (avs := [_, _]) true rfl rfl rfl (by decide) en_almagestref1_sign rfl rfl (rsign_ok _ _) rfl rfl ?_
    refine awps_stp0 rfl rfl (by decide) (stp_move (.inr rfl) rfl) ?_
    refine awps_nil ?_
    refine thenQ_nil ?_
    refine awp_seq ?_
    refine awp_seq ?_
    refine awp_region ?_
    refine awps_stp0 rfl rfl (by decide) (stp_move (.inl rfl) rfl) ?_
    refine awps_stp0 rfl rfl (by decide) (stp_binI rfl rfl rfl rfl) ?_
    refine awps_nil ?_
    refine thenQ_nil ?_
    refine awp_cond rfl (fun c3 => ?_) (fun c3 => ?_)
    · try simp only [↓str_beq_t, ↓str_beq_f, decide_eq_true_eq, decide_eq_false_iff_not, Bool.not_eq_true', Bool.not_eq_false', Int.not_lt, Int.not_le, beq_iff_eq, beq_eq_false_iff_ne, bne_iff_ne, bne_eq_false_iff_eq, ne_eq] at c3
      refine awp_region ?_
      first | refine awps_stp0 rfl rfl (by decide) (stp_fieldAddr rfl fo_api_Term_1 rfl) ?_ | refine awps_stp0 rfl rfl (by decide) (stp_fieldAddr_elp rfl fo_api_Term_1 rfl) ?_
      first | refine awps_stp0 rfl rfl (by decide) (stp_load rfl tf_string rfl rfl rfl rfl rfl) ?_ | refine awps_stp0 rfl rfl (by decide) (stp_load_elp1 rfl tf_string rfl) ?_ | refine awps_stp0 rfl rfl (by decide) (stp_load_elpn rfl tf_string rfl rfl rfl) ?_
      first | refine awps_stp0 rfl rfl (by decide) (stp_fieldAddr rfl fo_api_Term_1 rfl) ?_ | refine awps_stp0 rfl rfl (by decide) (stp_fieldAddr_elp rfl fo_api_Term_1 rfl) ?_
      first | refine awps_stp0 rfl rfl (by decide) (stp_load rfl tf_string rfl rfl rfl rfl rfl) ?_ | refine awps_stp0 rfl rfl (by decide) (stp_load_elp1 rfl tf_string rfl) ?_ | refine awps_stp0 rfl rfl (by decide) (stp_load_elpn rfl tf_string rfl rfl rfl) ?_
      refine awps_call (avs := [_, _]) true rfl rfl rfl (by decide) en_almagestref1_text rfl rfl (rtext_ok _ _) rfl rfl ?_
      refine awps_stp0 rfl rfl (by decide) (stp_move (.inr rfl) rfl) ?_
      refine awps_nil ?_
      refine thenQ_nil ?_
      refine awp_seq ?_
      refine awp_seq ?_
      refine awp_region ?_
      refine awps_stp0 rfl rfl (by decide) (stp_move (.inr rfl) rfl) ?_
      refine awps_nil ?_
      refine thenQ_nil ?_
      refine awp_block ?_
      refine awp_while (a.args.length) (fun k => k ≤ a.args.length ∧ ∀ j, j < k → ordL (ordT d) n0 (a.args.take j) (b.args.take j) = 0) (fun k => ⟨[(2, .ptr 2 0), (3, .ptr 3 0), (5, iv (ordL (ordT d) n0 (a.args.take k) (b.args.take k))), (6, iv (k : Int))], [(2, .box (lift false (tmD a))), (3, .box (lift false (tmD b)))]⟩) (⟨by omega, fun j hj => absurd hj (by omega)⟩) ?_ (fun k hk hp => ?_)
      · exact sub_re (SubT.cons (lk_eq rfl (by first | rfl | simp)) (SubT.cons (lk_eq rfl (by first | rfl | simp)) (SubT.cons (lk_eq rfl (by exact int_imm (by rw [hla, hlb] at c3; simp only [n0, List.take_zero, ordL, c3, if_true, if_false, hla, hlb]))) (SubT.cons (lk_eq rfl (by first | rfl | simp)) (SubT.nil))))) (SubO.cons (ok_eq rfl (by rfl)) (SubO.cons (ok_eq rfl (by rfl)) (SubO.nil))) rfl rfl (noL' (noL hL) _)
      refine awp_seq ?_
      refine awp_seq ?_
      refine awp_region ?_
      refine awps_stp0 rfl rfl (by decide) (stp_move (.inl rfl) rfl) ?_
      first | refine awps_stp0 rfl rfl (by decide) (stp_fieldAddr rfl fo_api_Term_3 rfl) ?_ | refine awps_stp0 rfl rfl (by decide) (stp_fieldAddr_elp rfl fo_api_Term_3 rfl) ?_
      first | refine awps_stp0 rfl rfl (by decide) (stp_load rfl tf_S_api_Term rfl rfl rfl rfl rfl) ?_ | refine awps_stp0 rfl rfl (by decide) (stp_load_elp1 rfl tf_S_api_Term rfl) ?_ | refine awps_stp0 rfl rfl (by decide) (stp_load_elpn rfl tf_S_api_Term rfl rfl rfl) ?_
      first | refine awps_stp0 rfl rfl (by decide) (stp_len_dat rfl sl_S_api_Term rfl) ?_ | refine awps_stp0 rfl rfl (by decide) (stp_len_rowd rfl sl_S_api_Term rfl rfl) ?_ | refine awps_stp0 rfl rfl (by decide) (stp_len_nil rfl sl_S_api_Term rfl) ?_
      refine awps_stp0 rfl rfl (by decide) (stp_binI rfl rfl rfl rfl) ?_
      refine awps_stp0 rfl rfl (by decide) (stp_move (.inl rfl) rfl) ?_
      refine awps_split 52 rfl (fun g52 => ?_) (fun g52 => ?_)
      · try simp only [↓str_beq_t, ↓str_beq_f, decide_eq_true_eq, decide_eq_false_iff_not, Bool.not_eq_true', Bool.not_eq_false', Int.not_lt, Int.not_le, beq_iff_eq, beq_eq_false_iff_ne, bne_iff_ne, bne_eq_false_iff_eq, ne_eq] at g52
        refine awps_g0 rfl rfl rfl (by decide) rfl (by decide) (stp_move (.inl rfl) rfl) ?_
        refine awps_g0 rfl rfl rfl (by decide) rfl (by decide) (stp_binI rfl rfl rfl rfl) ?_
        refine awps_stp0 rfl rfl (by decide) (stp_pick rfl rfl rfl) ?_
        refine awps_nil ?_
        refine thenQ_nil ?_
        refine awp_cond rfl (fun c4 => ?_) (fun c4 => ?_)
        · try simp only [↓str_beq_t, ↓str_beq_f, decide_eq_true_eq, decide_eq_false_iff_not, Bool.not_eq_true', Bool.not_eq_false', Int.not_lt, Int.not_le, beq_iff_eq, beq_eq_false_iff_ne, bne_iff_ne, bne_eq_false_iff_eq, ne_eq] at c4
          have hz : n0 = 0 := by
            by_cases hk00 : 0 < k
            · have := hp.2 0 hk00
              simpa only [List.take_zero, ordL_nil (ordT d) n0 [] [] (.inl rfl)] using this
            · have e : k = 0 := by omega
              rw [e] at c4
              simpa only [List.take_zero, ordL_nil (ordT d) n0 [] [] (.inl rfl)] using c4
          have hll : a.args.length = b.args.length := hn0 hz
          obtain ⟨u, hu⟩ := get_of_lt (l := a.args) (k := k) (by omega)
          obtain ⟨v, hv⟩ := get_of_lt (l := b.args) (k := k) (by omega)
          have hum := List.mem_of_getElem? hu
          have hvm := List.mem_of_getElem? hv
          refine awp_skip ?_
          refine thenQ_nil ?_
          refine awp_seq ?_
          refine awp_block ?_
          refine awp_drawG 10 mixed rfl rfl rfl rfl ?_
          first | refine MGo_c0 rfl (by decide) (.run rfl (stp_fieldAddr rfl fo_api_Term_3 rfl)) ?_ | refine MGo_c0 rfl (by decide) (.run rfl (stp_fieldAddr_elp rfl fo_api_Term_3 rfl)) ?_
          first | refine MGo_c0 rfl (by decide) (.run rfl (stp_load rfl tf_S_api_Term rfl rfl rfl rfl rfl)) ?_ | refine MGo_c0 rfl (by decide) (.run rfl (stp_load_elp1 rfl tf_S_api_Term rfl)) ?_ | refine MGo_c0 rfl (by decide) (.run rfl (stp_load_elpn rfl tf_S_api_Term rfl rfl rfl)) ?_
          refine MGo_c0 rfl (by decide) (.run rfl (stp_move (.inl rfl) rfl)) ?_
          first | refine MGo_c0 rfl (by decide) (.run rfl (stp_indexAddr rfl sl_S_api_Term rfl rfl (by omega) (tmDs_get hu))) ?_ | refine MGo_c0 rfl (by decide) (.run rfl (stp_indexAddr_rowd rfl sl_S_api_Term rfl rfl rfl (by omega) (tmDs_get hu))) ?_ | refine MGo_c0 rfl (by decide) (.run rfl (stp_indexAddr_row rfl sl_S_api_Term rfl rfl rfl (by omega) (tmDs_get hu) (by decide))) ?_
          first | refine MGo_c0 rfl (by decide) (.run rfl (stp_load_all rfl tf_api_Term rfl rfl rfl rfl)) ?_ | refine MGo_c0 rfl (by decide) (.run rfl (stp_load rfl tf_api_Term rfl rfl rfl rfl rfl)) ?_ | refine MGo_c0 rfl (by decide) (.run rfl (stp_load_elpa rfl tf_api_Term rfl rfl)) ?_ | refine MGo_c0 rfl (by decide) (.run rfl (stp_load_elpn rfl tf_api_Term rfl rfl rfl)) ?_
          first | refine MGo_c0 rfl (by decide) (.run rfl (stp_fieldAddr rfl fo_api_Term_3 rfl)) ?_ | refine MGo_c0 rfl (by decide) (.run rfl (stp_fieldAddr_elp rfl fo_api_Term_3 rfl)) ?_
          first | refine MGo_c0 rfl (by decide) (.run rfl (stp_load rfl tf_S_api_Term rfl rfl rfl rfl rfl)) ?_ | refine MGo_c0 rfl (by decide) (.run rfl (stp_load_elp1 rfl tf_S_api_Term rfl)) ?_ | refine MGo_c0 rfl (by decide) (.run rfl (stp_load_elpn rfl tf_S_api_Term rfl rfl rfl)) ?_
          refine MGo_c0 rfl (by decide) (.run rfl (stp_move (.inl rfl) rfl)) ?_
          first | refine MGo_c0 rfl (by decide) (.run rfl (stp_indexAddr rfl sl_S_api_Term rfl rfl (by omega) (tmDs_get hv))) ?_ | refine MGo_c0 rfl (by decide) (.run rfl (stp_indexAddr_rowd rfl sl_S_api_Term rfl rfl rfl (by omega) (tmDs_get hv))) ?_ | refine MGo_c0 rfl (by decide) (.run rfl (stp_indexAddr_row rfl sl_S_api_Term rfl rfl rfl (by omega) (tmDs_get hv) (by decide))) ?_
          first | refine MGo_c0 rfl (by decide) (.run rfl (stp_load_all rfl tf_api_Term rfl rfl rfl rfl)) ?_ | refine MGo_c0 rfl (by decide) (.run rfl (stp_load rfl tf_api_Term rfl rfl rfl rfl rfl)) ?_ | refine MGo_c0 rfl (by decide) (.run rfl (stp_load_elpa rfl tf_api_Term rfl rfl)) ?_ | refine MGo_c0 rfl (by decide) (.run rfl (stp_load_elpn rfl tf_api_Term rfl rfl rfl)) ?_
          refine MGo_nil ⟨rfl, rfl, ?_⟩
          refine awps_call (avs := [_, _]) true rfl rfl rfl (by decide) en_almagestref1_Order rfl rfl (Order_ok d u v (h u hum) (Tm.wfs_mem ha.2.2.2.2 hum) (Tm.wfs_mem hb.2.2.2.2 hvm)) rfl rfl ?_
          refine awps_stp0 rfl rfl (by decide) (stp_move (.inr rfl) rfl) ?_
          refine awps_nil ?_
          refine inQ_nil ?_
          refine thenQ_nil ?_
          refine awp_region ?_
          refine awps_stp0 rfl rfl (by decide) (stp_move (.inl rfl) rfl) ?_
          refine awps_stp0 rfl rfl (by decide) (stp_add rfl rfl rfl (by omega)) ?_
          refine awps_stp0 rfl rfl (by decide) (stp_move (.inr rfl) rfl) ?_
          refine awps_nil ?_
          have hb5 : ordT d u v = ordL (ordT d) n0 (a.args.take (k + 1)) (b.args.take (k + 1)) := by
            rw [take_snoc hu, take_snoc hv, ordL_snoc _ _ _ _ _ _ (by simp; omega) (fun j hj => by
              by_cases hjk : j < k
              · have := hp.2 j hjk; rwa [List.take_take, List.take_take, Nat.min_eq_left (by omega)]
              · have hj2 : j ≤ k := by rw [List.length_take] at hj; omega
                rw [show j = k by omega, List.take_take, List.take_take, Nat.min_self]; exact c4)]
          refine thenQ_nil ?_
          refine ⟨?_, ?_, ?_⟩
          · skip
            omega
          · skip
            refine ⟨by omega, fun j hj => ?_⟩
            by_cases hjk : j < k
            · exact hp.2 j hjk
            · rw [show j = k by omega]; exact c4
          exact sub_re (SubT.cons (lk_eq rfl (by first | rfl | simp)) (SubT.cons (lk_eq rfl (by first | rfl | simp)) (SubT.cons (lk_eq rfl (by exact int_imm hb5)) (SubT.cons (lk_eq rfl (by first | rfl | simp)) (SubT.nil))))) (SubO.cons (ok_eq rfl (by rfl)) (SubO.cons (ok_eq rfl (by rfl)) (SubO.nil))) rfl rfl (noL' (noL hL) _)
        try simp only [↓str_beq_t, ↓str_beq_f, decide_eq_true_eq, decide_eq_false_iff_not, Bool.not_eq_true', Bool.not_eq_false', Int.not_lt, Int.not_le, beq_iff_eq, beq_eq_false_iff_ne, bne_iff_ne, bne_eq_false_iff_eq, ne_eq] at c4
        have hfin := ordL_fin (ordT d) n0 a.args b.args k hp.1 hp.2 (.inr c4) hn0
        refine awp_exit ?_
        refine thenQ_exit (thenQ_exit (inQ_hit ?_))
        refine thenQ_nil ?_
        refine awp_seq ?_
        refine awp_region ?_
        refine awps_stp0 rfl rfl (by decide) (stp_move (.inl rfl) rfl) ?_
        refine awps_stp0 rfl rfl (by decide) (stp_move (.inr rfl) rfl) ?_
        refine awps_nil ?_
        refine thenQ_nil ?_
        refine awp_ret ?_
        -- leaf 0F1F2F3Tg52T4F
        refine ret0 (noL hL) (.inl rfl) (resAs_tmp rfl (resAs_nil)) ?_ ?_
        · rfl
        exact ⟨int_w (by rw [ordT, if_neg (by simp [c0]), if_neg c1, if_neg c2]; exact hfin), rfl⟩
      try simp only [↓str_beq_t, ↓str_beq_f, decide_eq_true_eq, decide_eq_false_iff_not, Bool.not_eq_true', Bool.not_eq_false', Int.not_lt, Int.not_le, beq_iff_eq, beq_eq_false_iff_ne, bne_iff_ne, bne_eq_false_iff_eq, ne_eq] at g52
      have hfin := ordL_fin (ordT d) n0 a.args b.args k hp.1 hp.2 (.inl (by omega)) hn0
      refine awps_gs rfl rfl rfl rfl (by decide) rfl (by decide) ?_
      refine awps_gs rfl rfl rfl rfl (by decide) rfl (by decide) ?_
      refine awps_stp0 rfl rfl (by decide) (stp_pick rfl rfl rfl) ?_
      refine awps_nil ?_
      refine thenQ_nil ?_
      refine awp_condF rfl ?_
      refine awp_exit ?_
      refine thenQ_exit (thenQ_exit (inQ_hit ?_))
      refine thenQ_nil ?_
      refine awp_seq ?_
      refine awp_region ?_
      refine awps_stp0 rfl rfl (by decide) (stp_move (.inl rfl) rfl) ?_
      refine awps_stp0 rfl rfl (by decide) (stp_move (.inr rfl) rfl) ?_
      refine awps_nil ?_
      refine thenQ_nil ?_
      refine awp_ret ?_
      -- leaf 0F1F2F3Tg52F
      refine ret0 (noL hL) (.inl rfl) (resAs_tmp rfl (resAs_nil)) ?_ ?_
      · rfl
      exact ⟨int_w (by rw [ordT, if_neg (by simp [c0]), if_neg c1, if_neg c2]; exact hfin), rfl⟩
    try simp only [↓str_beq_t, ↓str_beq_f, decide_eq_true_eq, decide_eq_false_iff_not, Bool.not_eq_true', Bool.not_eq_false', Int.not_lt, Int.not_le, beq_iff_eq, beq_eq_false_iff_ne, bne_iff_ne, bne_eq_false_iff_eq, ne_eq] at c3
    refine awp_skip ?_
    refine thenQ_nil ?_
    refine awp_seq ?_
    refine awp_seq ?_
    refine awp_region ?_
    refine awps_stp0 rfl rfl (by decide) (stp_move (.inr rfl) rfl) ?_
    refine awps_nil ?_
    refine thenQ_nil ?_
    refine awp_block ?_
    refine awp_while (a.args.length) (fun k => k ≤ a.args.length ∧ ∀ j, j < k → ordL (ordT d) n0 (a.args.take j) (b.args.take j) = 0) (fun k => ⟨[(2, .ptr 2 0), (3, .ptr 3 0), (5, iv (ordL (ordT d) n0 (a.args.take k) (b.args.take k))), (6, iv (k : Int))], [(2, .box (lift false (tmD a))), (3, .box (lift false (tmD b)))]⟩) (⟨by omega, fun j hj => absurd hj (by omega)⟩) ?_ (fun k hk hp => ?_)
    · exact sub_re (SubT.cons (lk_eq rfl (by first | rfl | simp)) (SubT.cons (lk_eq rfl (by first | rfl | simp)) (SubT.cons (lk_eq rfl (by exact int_imm (by rw [hla, hlb] at c3; simp only [n0, List.take_zero, ordL, c3, if_true, if_false, hla, hlb]))) (SubT.cons (lk_eq rfl (by first | rfl | simp)) (SubT.nil))))) (SubO.cons (ok_eq rfl (by rfl)) (SubO.cons (ok_eq rfl (by rfl)) (SubO.nil))) rfl rfl (noL' (noL hL) _)
    refine awp_seq ?_
    refine awp_seq ?_
    refine awp_region ?_
    refine awps_stp0 rfl rfl (by decide) (stp_move (.inl rfl) rfl) ?_
    first | refine awps_stp0 rfl rfl (by decide) (stp_fieldAddr rfl fo_api_Term_3 rfl) ?_ | refine awps_stp0 rfl rfl (by decide) (stp_fieldAddr_elp rfl fo_api_Term_3 rfl) ?_
    first | refine awps_stp0 rfl rfl (by decide) (stp_load rfl tf_S_api_Term rfl rfl rfl rfl rfl) ?_ | refine awps_stp0 rfl rfl (by decide) (stp_load_elp1 rfl tf_S_api_Term rfl) ?_ | refine awps_stp0 rfl rfl (by decide) (stp_load_elpn rfl tf_S_api_Term rfl rfl rfl) ?_
    first | refine awps_stp0 rfl rfl (by decide) (stp_len_dat rfl sl_S_api_Term rfl) ?_ | refine awps_stp0 rfl rfl (by decide) (stp_len_rowd rfl sl_S_api_Term rfl rfl) ?_ | refine awps_stp0 rfl rfl (by decide) (stp_len_nil rfl sl_S_api_Term rfl) ?_
    refine awps_stp0 rfl rfl (by decide) (stp_binI rfl rfl rfl rfl) ?_
    refine awps_stp0 rfl rfl (by decide) (stp_move (.inl rfl) rfl) ?_
    refine awps_split 52 rfl (fun g52 => ?_) (fun g52 => ?_)
    · try simp only [↓str_beq_t, ↓str_beq_f, decide_eq_true_eq, decide_eq_false_iff_not, Bool.not_eq_true', Bool.not_eq_false', Int.not_lt, Int.not_le, beq_iff_eq, beq_eq_false_iff_ne, bne_iff_ne, bne_eq_false_iff_eq, ne_eq] at g52
      refine awps_g0 rfl rfl rfl (by decide) rfl (by decide) (stp_move (.inl rfl) rfl) ?_
      refine awps_g0 rfl rfl rfl (by decide) rfl (by decide) (stp_binI rfl rfl rfl rfl) ?_
      refine awps_stp0 rfl rfl (by decide) (stp_pick rfl rfl rfl) ?_
      refine awps_nil ?_
      refine thenQ_nil ?_
      refine awp_cond rfl (fun c4 => ?_) (fun c4 => ?_)
      · try simp only [↓str_beq_t, ↓str_beq_f, decide_eq_true_eq, decide_eq_false_iff_not, Bool.not_eq_true', Bool.not_eq_false', Int.not_lt, Int.not_le, beq_iff_eq, beq_eq_false_iff_ne, bne_iff_ne, bne_eq_false_iff_eq, ne_eq] at c4
        have hz : n0 = 0 := by
          by_cases hk00 : 0 < k
          · have := hp.2 0 hk00
            simpa only [List.take_zero, ordL_nil (ordT d) n0 [] [] (.inl rfl)] using this
          · have e : k = 0 := by omega
            rw [e] at c4
            simpa only [List.take_zero, ordL_nil (ordT d) n0 [] [] (.inl rfl)] using c4
        have hll : a.args.length = b.args.length := hn0 hz
        obtain ⟨u, hu⟩ := get_of_lt (l := a.args) (k := k) (by omega)
        obtain ⟨v, hv⟩ := get_of_lt (l := b.args) (k := k) (by omega)
        have hum := List.mem_of_getElem? hu
        have hvm := List.mem_of_getElem? hv
        refine awp_skip ?_
        refine thenQ_nil ?_
        refine awp_seq ?_
        refine awp_block ?_
        refine awp_drawG 10 mixed rfl rfl rfl rfl ?_
        first | refine MGo_c0 rfl (by decide) (.run rfl (stp_fieldAddr rfl fo_api_Term_3 rfl)) ?_ | refine MGo_c0 rfl (by decide) (.run rfl (stp_fieldAddr_elp rfl fo_api_Term_3 rfl)) ?_
        first | refine MGo_c0 rfl (by decide) (.run rfl (stp_load rfl tf_S_api_Term rfl rfl rfl rfl rfl)) ?_ | refine MGo_c0 rfl (by decide) (.run rfl (stp_load_elp1 rfl tf_S_api_Term rfl)) ?_ | refine MGo_c0 rfl (by decide) (.run rfl (stp_load_elpn rfl tf_S_api_Term rfl rfl rfl)) ?_
        refine MGo_c0 rfl (by decide) (.run rfl (stp_move (.inl rfl) rfl)) ?_
        first | refine MGo_c0 rfl (by decide) (.run rfl (stp_indexAddr rfl sl_S_api_Term rfl rfl (by omega) (tmDs_get hu))) ?_ | refine MGo_c0 rfl (by decide) (.run rfl (stp_indexAddr_rowd rfl sl_S_api_Term rfl rfl rfl (by omega) (tmDs_get hu))) ?_ | refine MGo_c0 rfl (by decide) (.run rfl (stp_indexAddr_row rfl sl_S_api_Term rfl rfl rfl (by omega) (tmDs_get hu) (by decide))) ?_
        first | refine MGo_c0 rfl (by decide) (.run rfl (stp_load_all rfl tf_api_Term rfl rfl rfl rfl)) ?_ | refine MGo_c0 rfl (by decide) (.run rfl (stp_load rfl tf_api_Term rfl rfl rfl rfl rfl)) ?_ | refine MGo_c0 rfl (by decide) (.run rfl (stp_load_elpa rfl tf_api_Term rfl rfl)) ?_ | refine MGo_c0 rfl (by decide) (.run rfl (stp_load_elpn rfl tf_api_Term rfl rfl rfl)) ?_
        first | refine MGo_c0 rfl (by decide) (.run rfl (stp_fieldAddr rfl fo_api_Term_3 rfl)) ?_ | refine MGo_c0 rfl (by decide) (.run rfl (stp_fieldAddr_elp rfl fo_api_Term_3 rfl)) ?_
        first | refine MGo_c0 rfl (by decide) (.run rfl (stp_load rfl tf_S_api_Term rfl rfl rfl rfl rfl)) ?_ | refine MGo_c0 rfl (by decide) (.run rfl (stp_load_elp1 rfl tf_S_api_Term rfl)) ?_ | refine MGo_c0 rfl (by decide) (.run rfl (stp_load_elpn rfl tf_S_api_Term rfl rfl rfl)) ?_
        refine MGo_c0 rfl (by decide) (.run rfl (stp_move (.inl rfl) rfl)) ?_
        first | refine MGo_c0 rfl (by decide) (.run rfl (stp_indexAddr rfl sl_S_api_Term rfl rfl (by omega) (tmDs_get hv))) ?_ | refine MGo_c0 rfl (by decide) (.run rfl (stp_indexAddr_rowd rfl sl_S_api_Term rfl rfl rfl (by omega) (tmDs_get hv))) ?_ | refine MGo_c0 rfl (by decide) (.run rfl (stp_indexAddr_row rfl sl_S_api_Term rfl rfl rfl (by omega) (tmDs_get hv) (by decide))) ?_
        first | refine MGo_c0 rfl (by decide) (.run rfl (stp_load_all rfl tf_api_Term rfl rfl rfl rfl)) ?_ | refine MGo_c0 rfl (by decide) (.run rfl (stp_load rfl tf_api_Term rfl rfl rfl rfl rfl)) ?_ | refine MGo_c0 rfl (by decide) (.run rfl (stp_load_elpa rfl tf_api_Term rfl rfl)) ?_ | refine MGo_c0 rfl (by decide) (.run rfl (stp_load_elpn rfl tf_api_Term rfl rfl rfl)) ?_
        refine MGo_nil ⟨rfl, rfl, ?_⟩
        refine awps_call (avs := [_, _]) true rfl rfl rfl (by decide) en_almagestref1_Order rfl rfl (Order_ok d u v (h u hum) (Tm.wfs_mem ha.2.2.2.2 hum) (Tm.wfs_mem hb.2.2.2.2 hvm)) rfl rfl ?_
        refine awps_stp0 rfl rfl (by decide) (stp_move (.inr rfl) rfl) ?_
        refine awps_nil ?_
        refine inQ_nil ?_
        refine thenQ_nil ?_
        refine awp_region ?_
        refine awps_stp0 rfl rfl (by decide) (stp_move (.inl rfl) rfl) ?_
        refine awps_stp0 rfl rfl (by decide) (stp_add rfl rfl rfl (by omega)) ?_
        refine awps_stp0 rfl rfl (by decide) (stp_move (.inr rfl) rfl) ?_
        refine awps_nil ?_
        have hb5 : ordT d u v = ordL (ordT d) n0 (a.args.take (k + 1)) (b.args.take (k + 1)) := by
          rw [take_snoc hu, take_snoc hv, ordL_snoc _ _ _ _ _ _ (by simp; omega) (fun j hj => by
            by_cases hjk : j < k
            · have := hp.2 j hjk; rwa [List.take_take, List.take_take, Nat.min_eq_left (by omega)]
            · have hj2 : j ≤ k := by rw [List.length_take] at hj; omega
              rw [show j = k by omega, List.take_take, List.take_take, Nat.min_self]; exact c4)]
        refine thenQ_nil ?_
        refine ⟨?_, ?_, ?_⟩
        · skip
          omega
        · skip
          refine ⟨by omega, fun j hj => ?_⟩
          by_cases hjk : j < k
          · exact hp.2 j hjk
          · rw [show j = k by omega]; exact c4
        exact sub_re (SubT.cons (lk_eq rfl (by first | rfl | simp)) (SubT.cons (lk_eq rfl (by first | rfl | simp)) (SubT.cons (lk_eq rfl (by exact int_imm hb5)) (SubT.cons (lk_eq rfl (by first | rfl | simp)) (SubT.nil))))) (SubO.cons (ok_eq rfl (by rfl)) (SubO.cons (ok_eq rfl (by rfl)) (SubO.nil))) rfl rfl (noL' (noL hL) _)
      try simp only [↓str_beq_t, ↓str_beq_f, decide_eq_true_eq, decide_eq_false_iff_not, Bool.not_eq_true', Bool.not_eq_false', Int.not_lt, Int.not_le, beq_iff_eq, beq_eq_false_iff_ne, bne_iff_ne, bne_eq_false_iff_eq, ne_eq] at c4
      have hfin := ordL_fin (ordT d) n0 a.args b.args k hp.1 hp.2 (.inr c4) hn0
      refine awp_exit ?_
      refine thenQ_exit (thenQ_exit (inQ_hit ?_))
      refine thenQ_nil ?_
      refine awp_seq ?_
      refine awp_region ?_
      refine awps_stp0 rfl rfl (by decide) (stp_move (.inl rfl) rfl) ?_
      refine awps_stp0 rfl rfl (by decide) (stp_move (.inr rfl) rfl) ?_
      refine awps_nil ?_
      refine thenQ_nil ?_
      refine awp_ret ?_
      -- leaf 0F1F2F3Fg52T4F
      refine ret0 (noL hL) (.inl rfl) (resAs_tmp rfl (resAs_nil)) ?_ ?_
      · rfl
      exact ⟨int_w (by rw [ordT, if_neg (by simp [c0]), if_neg c1, if_neg c2]; exact hfin), rfl⟩
    try simp only [↓str_beq_t, ↓str_beq_f, decide_eq_true_eq, decide_eq_false_iff_not, Bool.not_eq_true', Bool.not_eq_false', Int.not_lt, Int.not_le, beq_iff_eq, beq_eq_false_iff_ne, bne_iff_ne, bne_eq_false_iff_eq, ne_eq] at g52
    have hfin := ordL_fin (ordT d) n0 a.args b.args k hp.1 hp.2 (.inl (by omega)) hn0
    refine awps_gs rfl rfl rfl rfl (by decide) rfl (by decide) ?_
    refine awps_gs rfl rfl rfl rfl (by decide) rfl (by decide) ?_
    refine awps_stp0 rfl rfl (by decide) (stp_pick rfl rfl rfl) ?_
    refine awps_nil ?_
    refine thenQ_nil ?_
    refine awp_condF rfl ?_
    refine awp_exit ?_
    refine thenQ_exit (thenQ_exit (inQ_hit ?_))
    refine thenQ_nil ?_
    refine awp_seq ?_
    refine awp_region ?_
    refine awps_stp0 rfl rfl (by decide) (stp_move (.inl rfl) rfl) ?_
    refine awps_stp0 rfl rfl (by decide) (stp_move (.inr rfl) rfl) ?_
    refine awps_nil ?_
    refine thenQ_nil ?_
    refine awp_ret ?_
    -- leaf 0F1F2F3Fg52F
    refine ret0 (noL hL) (.inl rfl) (resAs_tmp rfl (resAs_nil)) ?_ ?_
    · rfl
    exact ⟨int_w (by rw [ordT, if_neg (by simp [c0]), if_neg c1, if_neg c2]; exact hfin), rfl⟩

theorem data_inj (a b : ByteArray) : a.data = b.data ↔ a = b := ⟨fun h => by cases a; cases b; simpa using h, fun h => by rw [h]⟩
/-- Equality of terms. -/
def eqL (f : Tm → Tm → Bool) : List Tm → List Tm → Bool
  | [], [] => true
  | a :: l, b :: m => f a b && eqL f l m
  | _, _ => false
def eqT : Nat → Tm → Tm → Bool
  | 0, _, _ => false
  | d + 1, a, b => decide (a.kind = b.kind) && decide (a.name.data.toList = b.name.data.toList) && decide (a.n = b.n) && eqL (eqT d) a.args b.args
theorem eqL_len (f : Tm → Tm → Bool) : ∀ {l m : List Tm}, l.length ≠ m.length → eqL f l m = false
  | [], [], h => absurd rfl h
  | a :: l, b :: m, h => by simp only [eqL, eqL_len f (l := l) (m := m) (by simpa using h), Bool.and_false]
  | [], _ :: _, _ => rfl
  | _ :: _, [], _ => rfl
theorem eqL_true (f : Tm → Tm → Bool) : ∀ {l m : List Tm}, l.length = m.length → (∀ (j : Nat) (a b : Tm), l[j]? = some a → m[j]? = some b → f a b = true) → eqL f l m = true
  | [], [], _, _ => rfl
  | a :: l, b :: m, h, k => by
    simp only [eqL, Bool.and_eq_true]
    exact ⟨k 0 a b (by simp) (by simp), eqL_true f (by simpa using h) fun j a b h1 h2 => k (j + 1) a b (by simpa using h1) (by simpa using h2)⟩
theorem eqL_false (f : Tm → Tm → Bool) : ∀ {l m : List Tm} (j : Nat) {a b : Tm}, l[j]? = some a → m[j]? = some b → f a b = false → eqL f l m = false
  | [], _, j, a, b, h, _, _ => by simp at h
  | _ :: _, [], j, a, b, _, h, _ => by simp at h
  | x :: l, y :: m, 0, a, b, h1, h2, h => by
    simp only [List.getElem?_cons_zero, Option.some.injEq] at h1 h2
    subst h1; subst h2; simp [eqL, h]
  | x :: l, y :: m, j + 1, a, b, h1, h2, h => by
    simp [eqL, eqL_false f (l := l) (m := m) j (by simpa using h1) (by simpa using h2) h]
def EqC (d : Nat) : Prop := ∀ a b : Tm, dle d a → a.wf → b.wf → PF 31 [tmA false a, tmA false b] (bv (eqT d a b))
theorem EqTerms_ok (d : Nat) (ih : EqC d) (x y : List Tm) (hx : ∀ u, u ∈ x → dle d u) (wx : Tm.wfs x) (wy : Tm.wfs y) (lx : x.length ≤ 140737488351232) (ly : y.length ≤ 140737488351232) : PF 65 [.dat false 4 (tmDs x), .dat false 4 (tmDs y)] (bv (eqL (eqT d) x y)) := by
  have hlx := tmDs_length x
  have hly := tmDs_length y
  refine AC_intro Try.func65 rfl Try.ntmps65 (Nat.le_of_ble_eq_true rfl) fun c hL => ?_
  refine awp_seq ?_
  refine awp_region ?_
  refine awps_stp0 rfl rfl (by decide) (stp_move (.inr rfl) rfl) ?_
  refine awps_nil ?_
  refine thenQ_nil ?_
  refine awp_seq ?_
  refine awp_seq ?_
  refine awp_region ?_
  refine awps_stp0 rfl rfl (by decide) (stp_move (.inl rfl) rfl) ?_
  first | refine awps_stp0 rfl rfl (by decide) (stp_len_dat rfl sl_S_api_Term rfl) ?_ | refine awps_stp0 rfl rfl (by decide) (stp_len_rowd rfl sl_S_api_Term rfl rfl) ?_ | refine awps_stp0 rfl rfl (by decide) (stp_len_nil rfl sl_S_api_Term rfl) ?_
  refine awps_stp0 rfl rfl (by decide) (stp_move (.inl rfl) rfl) ?_
  first | refine awps_stp0 rfl rfl (by decide) (stp_len_dat rfl sl_S_api_Term rfl) ?_ | refine awps_stp0 rfl rfl (by decide) (stp_len_rowd rfl sl_S_api_Term rfl rfl) ?_ | refine awps_stp0 rfl rfl (by decide) (stp_len_nil rfl sl_S_api_Term rfl) ?_
  refine awps_stp0 rfl rfl (by decide) (stp_binI rfl rfl rfl rfl) ?_
  refine awps_nil ?_
  refine thenQ_nil ?_
  refine awp_cond rfl (fun c0 => ?_) (fun c0 => ?_)
  · try simp only [↓str_beq_t, ↓str_beq_f, decide_eq_true_eq, decide_eq_false_iff_not, Bool.not_eq_true', Bool.not_eq_false', Int.not_lt, Int.not_le, beq_iff_eq, beq_eq_false_iff_ne, bne_iff_ne, bne_eq_false_iff_eq, ne_eq] at c0
    refine awp_seq ?_
    refine awp_region ?_
    refine awps_stp0 rfl rfl (by decide) (stp_move (.inr rfl) rfl) ?_
    refine awps_nil ?_
    refine thenQ_nil ?_
    refine awp_ret ?_
    refine thenQ_ret (?_)
    -- leaf 0T
    refine ret0 (noL hL) (.inl rfl) (resAs_tmp rfl (resAs_nil)) ?_ ?_
    · rfl
    exact ⟨bool_w (eqL_len _ (by omega)).symm, rfl⟩
  try simp only [↓str_beq_t, ↓str_beq_f, decide_eq_true_eq, decide_eq_false_iff_not, Bool.not_eq_true', Bool.not_eq_false', Int.not_lt, Int.not_le, beq_iff_eq, beq_eq_false_iff_ne, bne_iff_ne, bne_eq_false_iff_eq, ne_eq] at c0
  refine awp_skip ?_
  refine thenQ_nil ?_
  refine awp_seq ?_
  refine awp_seq ?_
  refine awp_region ?_
  refine awps_stp0 rfl rfl (by decide) (stp_move (.inr rfl) rfl) ?_
  refine awps_nil ?_
  refine thenQ_nil ?_
  refine awp_block ?_
  refine awp_while (x.length) (fun k => k ≤ x.length ∧ ∀ j a b, j < k → x[j]? = some a → y[j]? = some b → eqT d a b = true) (fun k => ⟨[(0, .dat false 4 (tmDs x)), (1, .dat false 4 (tmDs y)), (5, iv (k : Int))], []⟩) (⟨by omega, fun j a b hj => absurd hj (by omega)⟩) ?_ (fun k hk hp => ?_)
  · exact sub_re (SubT.cons (lk_eq rfl (by first | rfl | simp)) (SubT.cons (lk_eq rfl (by first | rfl | simp)) (SubT.cons (lk_eq rfl (by first | rfl | simp)) (SubT.nil)))) (SubO.nil) rfl rfl (noL' (noL hL) _)
  refine awp_seq ?_
  refine awp_seq ?_
  refine awp_region ?_
  refine awps_stp0 rfl rfl (by decide) (stp_move (.inl rfl) rfl) ?_
  refine awps_stp0 rfl rfl (by decide) (stp_move (.inl rfl) rfl) ?_
  first | refine awps_stp0 rfl rfl (by decide) (stp_len_dat rfl sl_S_api_Term rfl) ?_ | refine awps_stp0 rfl rfl (by decide) (stp_len_rowd rfl sl_S_api_Term rfl rfl) ?_ | refine awps_stp0 rfl rfl (by decide) (stp_len_nil rfl sl_S_api_Term rfl) ?_
  refine awps_stp0 rfl rfl (by decide) (stp_binI rfl rfl rfl rfl) ?_
  refine awps_nil ?_
  refine thenQ_nil ?_
  refine awp_cond rfl (fun c1 => ?_) (fun c1 => ?_)
  · try simp only [↓str_beq_t, ↓str_beq_f, decide_eq_true_eq, decide_eq_false_iff_not, Bool.not_eq_true', Bool.not_eq_false', Int.not_lt, Int.not_le, beq_iff_eq, beq_eq_false_iff_ne, bne_iff_ne, bne_eq_false_iff_eq, ne_eq] at c1
    obtain ⟨u, hu⟩ := get_of_lt (l := x) (k := k) (by omega)
    obtain ⟨v, hv⟩ := get_of_lt (l := y) (k := k) (by omega)
    refine awp_skip ?_
    refine thenQ_nil ?_
    refine awp_seq ?_
    refine awp_block ?_
    refine awp_seq ?_
    refine awp_drawG 8 mixed rfl rfl rfl rfl ?_
    refine MGo_c0 rfl (by decide) (.run rfl (stp_move (.inl rfl) rfl)) ?_
    refine MGo_c0 rfl (by decide) (.run rfl (stp_move (.inl rfl) rfl)) ?_
    first | refine MGo_c0 rfl (by decide) (.run rfl (stp_indexAddr rfl sl_S_api_Term rfl rfl (by omega) (tmDs_get hu))) ?_ | refine MGo_c0 rfl (by decide) (.run rfl (stp_indexAddr_rowd rfl sl_S_api_Term rfl rfl rfl (by omega) (tmDs_get hu))) ?_ | refine MGo_c0 rfl (by decide) (.run rfl (stp_indexAddr_row rfl sl_S_api_Term rfl rfl rfl (by omega) (tmDs_get hu) (by decide))) ?_
    first | refine MGo_c0 rfl (by decide) (.run rfl (stp_load_all rfl tf_api_Term rfl rfl rfl rfl)) ?_ | refine MGo_c0 rfl (by decide) (.run rfl (stp_load rfl tf_api_Term rfl rfl rfl rfl rfl)) ?_ | refine MGo_c0 rfl (by decide) (.run rfl (stp_load_elpa rfl tf_api_Term rfl rfl)) ?_ | refine MGo_c0 rfl (by decide) (.run rfl (stp_load_elpn rfl tf_api_Term rfl rfl rfl)) ?_
    refine MGo_c0 rfl (by decide) (.run rfl (stp_move (.inl rfl) rfl)) ?_
    refine MGo_c0 rfl (by decide) (.run rfl (stp_move (.inl rfl) rfl)) ?_
    first | refine MGo_c0 rfl (by decide) (.run rfl (stp_indexAddr rfl sl_S_api_Term rfl rfl (by omega) (tmDs_get hv))) ?_ | refine MGo_c0 rfl (by decide) (.run rfl (stp_indexAddr_rowd rfl sl_S_api_Term rfl rfl rfl (by omega) (tmDs_get hv))) ?_ | refine MGo_c0 rfl (by decide) (.run rfl (stp_indexAddr_row rfl sl_S_api_Term rfl rfl rfl (by omega) (tmDs_get hv) (by decide))) ?_
    first | refine MGo_c0 rfl (by decide) (.run rfl (stp_load_all rfl tf_api_Term rfl rfl rfl rfl)) ?_ | refine MGo_c0 rfl (by decide) (.run rfl (stp_load rfl tf_api_Term rfl rfl rfl rfl rfl)) ?_ | refine MGo_c0 rfl (by decide) (.run rfl (stp_load_elpa rfl tf_api_Term rfl rfl)) ?_ | refine MGo_c0 rfl (by decide) (.run rfl (stp_load_elpn rfl tf_api_Term rfl rfl rfl)) ?_
    refine MGo_nil ⟨rfl, rfl, ?_⟩
    refine awps_call (avs := [_, _]) true rfl rfl rfl (by decide) en_almagestref0_EqTerm rfl rfl (ih u v (hx u (List.mem_of_getElem? hu)) (Tm.wfs_get wx hu) (Tm.wfs_get wy hv)) rfl rfl ?_
    refine awps_stp0 rfl rfl (by decide) (stp_not rfl rfl) ?_
    refine awps_nil ?_
    refine thenQ_nil ?_
    refine awp_cond rfl (fun c2 => ?_) (fun c2 => ?_)
    · try simp only [↓str_beq_t, ↓str_beq_f, decide_eq_true_eq, decide_eq_false_iff_not, Bool.not_eq_true', Bool.not_eq_false', Int.not_lt, Int.not_le, beq_iff_eq, beq_eq_false_iff_ne, bne_iff_ne, bne_eq_false_iff_eq, ne_eq] at c2
      refine awp_seq ?_
      refine awp_region ?_
      refine awps_stp0 rfl rfl (by decide) (stp_move (.inr rfl) rfl) ?_
      refine awps_nil ?_
      refine thenQ_nil ?_
      refine awp_ret ?_
      refine inQ_ret (thenQ_ret (thenQ_ret (inQ_ret (thenQ_ret (?_)))))
      -- leaf 0F1T2T
      refine ret0 (noL hL) (.inl rfl) (resAs_tmp rfl (resAs_nil)) ?_ ?_
      · rfl
      exact ⟨bool_w (eqL_false _ k hu hv c2).symm, rfl⟩
    try simp only [↓str_beq_t, ↓str_beq_f, decide_eq_true_eq, decide_eq_false_iff_not, Bool.not_eq_true', Bool.not_eq_false', Int.not_lt, Int.not_le, beq_iff_eq, beq_eq_false_iff_ne, bne_iff_ne, bne_eq_false_iff_eq, ne_eq] at c2
    refine awp_skip ?_
    refine inQ_nil ?_
    refine thenQ_nil ?_
    refine awp_region ?_
    refine awps_stp0 rfl rfl (by decide) (stp_move (.inl rfl) rfl) ?_
    refine awps_stp0 rfl rfl (by decide) (stp_add rfl rfl rfl (by omega)) ?_
    refine awps_stp0 rfl rfl (by decide) (stp_move (.inr rfl) rfl) ?_
    refine awps_nil ?_
    refine thenQ_nil ?_
    refine ⟨?_, ?_, ?_⟩
    · skip
      omega
    · skip
      refine ⟨by omega, fun j a b hj ha hb => ?_⟩
      by_cases hjk : j < k
      · exact hp.2 j a b hjk ha hb
      · rw [show j = k by omega] at ha hb; rw [hu] at ha; rw [hv] at hb; cases ha; cases hb; exact c2
    exact sub_re (SubT.cons (lk_eq rfl (by first | rfl | simp)) (SubT.cons (lk_eq rfl (by first | rfl | simp)) (SubT.cons (lk_eq rfl (by first | rfl | simp)) (SubT.nil)))) (SubO.nil) rfl rfl (noL' (noL hL) _)
  try simp only [↓str_beq_t, ↓str_beq_f, decide_eq_true_eq, decide_eq_false_iff_not, Bool.not_eq_true', Bool.not_eq_false', Int.not_lt, Int.not_le, beq_iff_eq, beq_eq_false_iff_ne, bne_iff_ne, bne_eq_false_iff_eq, ne_eq] at c1
  refine awp_exit ?_
  refine thenQ_exit (thenQ_exit (inQ_hit ?_))
  refine thenQ_nil ?_
  refine awp_seq ?_
  refine awp_region ?_
  refine awps_stp0 rfl rfl (by decide) (stp_move (.inr rfl) rfl) ?_
  refine awps_nil ?_
  refine thenQ_nil ?_
  refine awp_ret ?_
  -- leaf 0F1F
  refine ret0 (noL hL) (.inl rfl) (resAs_tmp rfl (resAs_nil)) ?_ ?_
  · rfl
  exact ⟨bool_w (eqL_true _ (by omega) (fun j a b ha hb => hp.2 j a b (by have := (List.getElem?_eq_some_iff.1 ha).1; omega) ha hb)).symm, rfl⟩
theorem EqTerm_ok : ∀ d : Nat, EqC d
  | 0 => fun a b h _ _ => h.elim
  | d + 1 => fun a b h ha hb => by
    have h1 := ha.2.2.2.1
    have h2 := hb.2.2.2.1
    refine AC_intro Try.func31 rfl Try.ntmps31 (Nat.le_of_ble_eq_true rfl) fun c hL => ?_
    refine awp_seq ?_
    refine awp_region ?_
    refine awps_stp1 rfl rfl (by decide) (stp_box 2 rfl rfl rfl) rfl ?_
    refine awps_stp1 rfl rfl (by decide) (stp_box 3 rfl rfl rfl) rfl ?_
    refine awps_stp0 rfl rfl (by decide) (stp_move (.inr rfl) rfl) ?_
    refine awps_nil ?_
    refine thenQ_nil ?_
    refine awp_seq ?_
    refine awp_region ?_
    first | refine awps_stp0 rfl rfl (by decide) (stp_fieldAddr rfl fo_api_Term_0 rfl) ?_ | refine awps_stp0 rfl rfl (by decide) (stp_fieldAddr_elp rfl fo_api_Term_0 rfl) ?_
    first | refine awps_stp0 rfl rfl (by decide) (stp_load rfl tf_int rfl rfl rfl rfl rfl) ?_ | refine awps_stp0 rfl rfl (by decide) (stp_load_elp1 rfl tf_int rfl) ?_ | refine awps_stp0 rfl rfl (by decide) (stp_load_elpn rfl tf_int rfl rfl rfl) ?_
    first | refine awps_stp0 rfl rfl (by decide) (stp_fieldAddr rfl fo_api_Term_0 rfl) ?_ | refine awps_stp0 rfl rfl (by decide) (stp_fieldAddr_elp rfl fo_api_Term_0 rfl) ?_
    first | refine awps_stp0 rfl rfl (by decide) (stp_load rfl tf_int rfl rfl rfl rfl rfl) ?_ | refine awps_stp0 rfl rfl (by decide) (stp_load_elp1 rfl tf_int rfl) ?_ | refine awps_stp0 rfl rfl (by decide) (stp_load_elpn rfl tf_int rfl rfl rfl) ?_
    refine awps_stp0 rfl rfl (by decide) (stp_binI rfl rfl rfl rfl) ?_
    refine awps_stp0 rfl rfl (by decide) (stp_move (.inl rfl) rfl) ?_
    refine awps_split 10 rfl (fun g10 => ?_) (fun g10 => ?_)
    · try simp only [↓str_beq_t, ↓str_beq_f, decide_eq_true_eq, decide_eq_false_iff_not, Bool.not_eq_true', Bool.not_eq_false', Int.not_lt, Int.not_le, beq_iff_eq, beq_eq_false_iff_ne, bne_iff_ne, bne_eq_false_iff_eq, ne_eq] at g10
      first | refine awps_g0 rfl rfl rfl (by decide) rfl (by decide) (stp_fieldAddr rfl fo_api_Term_1 rfl) ?_ | refine awps_g0 rfl rfl rfl (by decide) rfl (by decide) (stp_fieldAddr_elp rfl fo_api_Term_1 rfl) ?_
      first | refine awps_g0 rfl rfl rfl (by decide) rfl (by decide) (stp_load rfl tf_string rfl rfl rfl rfl rfl) ?_ | refine awps_g0 rfl rfl rfl (by decide) rfl (by decide) (stp_load_elp1 rfl tf_string rfl) ?_ | refine awps_g0 rfl rfl rfl (by decide) rfl (by decide) (stp_load_elpn rfl tf_string rfl rfl rfl) ?_
      first | refine awps_g0 rfl rfl rfl (by decide) rfl (by decide) (stp_fieldAddr rfl fo_api_Term_1 rfl) ?_ | refine awps_g0 rfl rfl rfl (by decide) rfl (by decide) (stp_fieldAddr_elp rfl fo_api_Term_1 rfl) ?_
      first | refine awps_g0 rfl rfl rfl (by decide) rfl (by decide) (stp_load rfl tf_string rfl rfl rfl rfl rfl) ?_ | refine awps_g0 rfl rfl rfl (by decide) rfl (by decide) (stp_load_elp1 rfl tf_string rfl) ?_ | refine awps_g0 rfl rfl rfl (by decide) rfl (by decide) (stp_load_elpn rfl tf_string rfl rfl rfl) ?_
      refine awps_g0 rfl rfl rfl (by decide) rfl (by decide) (stp_binS rfl rfl rfl rfl) ?_
      refine awps_stp0 rfl rfl (by decide) (stp_pick rfl rfl rfl) ?_
      refine awps_stp0 rfl rfl (by decide) (stp_move (.inl rfl) rfl) ?_
      refine awps_split 17 rfl (fun g17 => ?_) (fun g17 => ?_)
      · try simp only [↓str_beq_t, ↓str_beq_f, decide_eq_true_eq, decide_eq_false_iff_not, Bool.not_eq_true', Bool.not_eq_false', Int.not_lt, Int.not_le, beq_iff_eq, beq_eq_false_iff_ne, bne_iff_ne, bne_eq_false_iff_eq, ne_eq] at g17
        first | refine awps_g0 rfl rfl rfl (by decide) rfl (by decide) (stp_fieldAddr rfl fo_api_Term_2 rfl) ?_ | refine awps_g0 rfl rfl rfl (by decide) rfl (by decide) (stp_fieldAddr_elp rfl fo_api_Term_2 rfl) ?_
        first | refine awps_g0 rfl rfl rfl (by decide) rfl (by decide) (stp_load rfl tf_int rfl rfl rfl rfl rfl) ?_ | refine awps_g0 rfl rfl rfl (by decide) rfl (by decide) (stp_load_elp1 rfl tf_int rfl) ?_ | refine awps_g0 rfl rfl rfl (by decide) rfl (by decide) (stp_load_elpn rfl tf_int rfl rfl rfl) ?_
        first | refine awps_g0 rfl rfl rfl (by decide) rfl (by decide) (stp_fieldAddr rfl fo_api_Term_2 rfl) ?_ | refine awps_g0 rfl rfl rfl (by decide) rfl (by decide) (stp_fieldAddr_elp rfl fo_api_Term_2 rfl) ?_
        first | refine awps_g0 rfl rfl rfl (by decide) rfl (by decide) (stp_load rfl tf_int rfl rfl rfl rfl rfl) ?_ | refine awps_g0 rfl rfl rfl (by decide) rfl (by decide) (stp_load_elp1 rfl tf_int rfl) ?_ | refine awps_g0 rfl rfl rfl (by decide) rfl (by decide) (stp_load_elpn rfl tf_int rfl rfl rfl) ?_
        refine awps_g0 rfl rfl rfl (by decide) rfl (by decide) (stp_binI rfl rfl rfl rfl) ?_
        refine awps_stp0 rfl rfl (by decide) (stp_pick rfl rfl rfl) ?_
        refine awps_stp0 rfl rfl (by decide) (stp_move (.inl rfl) rfl) ?_
        refine awps_split 24 rfl (fun g24 => ?_) (fun g24 => ?_)
        · try simp only [↓str_beq_t, ↓str_beq_f, decide_eq_true_eq, decide_eq_false_iff_not, Bool.not_eq_true', Bool.not_eq_false', Int.not_lt, Int.not_le, beq_iff_eq, beq_eq_false_iff_ne, bne_iff_ne, bne_eq_false_iff_eq, ne_eq] at g24
          first | refine awps_g0 rfl rfl rfl (by decide) rfl (by decide) (stp_fieldAddr rfl fo_api_Term_3 rfl) ?_ | refine awps_g0 rfl rfl rfl (by decide) rfl (by decide) (stp_fieldAddr_elp rfl fo_api_Term_3 rfl) ?_
          first | refine awps_g0 rfl rfl rfl (by decide) rfl (by decide) (stp_load rfl tf_S_api_Term rfl rfl rfl rfl rfl) ?_ | refine awps_g0 rfl rfl rfl (by decide) rfl (by decide) (stp_load_elp1 rfl tf_S_api_Term rfl) ?_ | refine awps_g0 rfl rfl rfl (by decide) rfl (by decide) (stp_load_elpn rfl tf_S_api_Term rfl rfl rfl) ?_
          first | refine awps_g0 rfl rfl rfl (by decide) rfl (by decide) (stp_fieldAddr rfl fo_api_Term_3 rfl) ?_ | refine awps_g0 rfl rfl rfl (by decide) rfl (by decide) (stp_fieldAddr_elp rfl fo_api_Term_3 rfl) ?_
          first | refine awps_g0 rfl rfl rfl (by decide) rfl (by decide) (stp_load rfl tf_S_api_Term rfl rfl rfl rfl rfl) ?_ | refine awps_g0 rfl rfl rfl (by decide) rfl (by decide) (stp_load_elp1 rfl tf_S_api_Term rfl) ?_ | refine awps_g0 rfl rfl rfl (by decide) rfl (by decide) (stp_load_elpn rfl tf_S_api_Term rfl rfl rfl) ?_
          refine awps_g0 rfl rfl rfl (by decide) rfl (by decide) (stp_call (avs := [_, _]) true rfl en_almagestref0_EqTerms rfl rfl (EqTerms_ok d (EqTerm_ok d) a.args b.args h ha.2.2.2.2 hb.2.2.2.2 (by omega) (by omega)) (fun _ => rfl) rfl) ?_
          refine awps_stp0 rfl rfl (by decide) (stp_pick rfl rfl rfl) ?_
          refine awps_stp0 rfl rfl (by decide) (stp_move (.inr rfl) rfl) ?_
          refine awps_nil ?_
          refine thenQ_nil ?_
          refine awp_ret ?_
          -- leaf g10Tg17Tg24T
          refine ret0 (noL hL) (.inl rfl) (resAs_tmp rfl (resAs_nil)) ?_ ?_
          · rfl
          refine ⟨bool_w ?_, rfl⟩
          simp_all [eqT, data_inj]
        try simp only [↓str_beq_t, ↓str_beq_f, decide_eq_true_eq, decide_eq_false_iff_not, Bool.not_eq_true', Bool.not_eq_false', Int.not_lt, Int.not_le, beq_iff_eq, beq_eq_false_iff_ne, bne_iff_ne, bne_eq_false_iff_eq, ne_eq] at g24
        refine awps_gs rfl rfl rfl rfl (by decide) rfl (by decide) ?_
        refine awps_gs rfl rfl rfl rfl (by decide) rfl (by decide) ?_
        refine awps_gs rfl rfl rfl rfl (by decide) rfl (by decide) ?_
        refine awps_gs rfl rfl rfl rfl (by decide) rfl (by decide) ?_
        refine awps_gs rfl rfl rfl rfl (by decide) rfl (by decide) ?_
        refine awps_stp0 rfl rfl (by decide) (stp_pick rfl rfl rfl) ?_
        refine awps_stp0 rfl rfl (by decide) (stp_move (.inr rfl) rfl) ?_
        refine awps_nil ?_
        refine thenQ_nil ?_
        refine awp_ret ?_
        -- leaf g10Tg17Tg24F
        refine ret0 (noL hL) (.inl rfl) (resAs_tmp rfl (resAs_nil)) ?_ ?_
        · rfl
        refine ⟨bool_w ?_, rfl⟩
        simp_all [eqT, data_inj]
      try simp only [↓str_beq_t, ↓str_beq_f, decide_eq_true_eq, decide_eq_false_iff_not, Bool.not_eq_true', Bool.not_eq_false', Int.not_lt, Int.not_le, beq_iff_eq, beq_eq_false_iff_ne, bne_iff_ne, bne_eq_false_iff_eq, ne_eq] at g17
      refine awps_gs rfl rfl rfl rfl (by decide) rfl (by decide) ?_
      refine awps_gs rfl rfl rfl rfl (by decide) rfl (by decide) ?_
      refine awps_gs rfl rfl rfl rfl (by decide) rfl (by decide) ?_
      refine awps_gs rfl rfl rfl rfl (by decide) rfl (by decide) ?_
      refine awps_gs rfl rfl rfl rfl (by decide) rfl (by decide) ?_
      refine awps_stp0 rfl rfl (by decide) (stp_pick rfl rfl rfl) ?_
      refine awps_stp0 rfl rfl (by decide) (stp_move (.inl rfl) rfl) ?_
      refine awps_gs rfl rfl rfl rfl (by decide) rfl (by decide) ?_
      refine awps_gs rfl rfl rfl rfl (by decide) rfl (by decide) ?_
      refine awps_gs rfl rfl rfl rfl (by decide) rfl (by decide) ?_
      refine awps_gs rfl rfl rfl rfl (by decide) rfl (by decide) ?_
      refine awps_gs rfl rfl rfl rfl (by decide) rfl (by decide) ?_
      refine awps_stp0 rfl rfl (by decide) (stp_pick rfl rfl rfl) ?_
      refine awps_stp0 rfl rfl (by decide) (stp_move (.inr rfl) rfl) ?_
      refine awps_nil ?_
      refine thenQ_nil ?_
      refine awp_ret ?_
      -- leaf g10Tg17F
      refine ret0 (noL hL) (.inl rfl) (resAs_tmp rfl (resAs_nil)) ?_ ?_
      · rfl
      refine ⟨bool_w ?_, rfl⟩
      simp_all [eqT, data_inj]
    try simp only [↓str_beq_t, ↓str_beq_f, decide_eq_true_eq, decide_eq_false_iff_not, Bool.not_eq_true', Bool.not_eq_false', Int.not_lt, Int.not_le, beq_iff_eq, beq_eq_false_iff_ne, bne_iff_ne, bne_eq_false_iff_eq, ne_eq] at g10
    refine awps_gs rfl rfl rfl rfl (by decide) rfl (by decide) ?_
    refine awps_gs rfl rfl rfl rfl (by decide) rfl (by decide) ?_
    refine awps_gs rfl rfl rfl rfl (by decide) rfl (by decide) ?_
    refine awps_gs rfl rfl rfl rfl (by decide) rfl (by decide) ?_
    refine awps_gs rfl rfl rfl rfl (by decide) rfl (by decide) ?_
    refine awps_stp0 rfl rfl (by decide) (stp_pick rfl rfl rfl) ?_
    refine awps_stp0 rfl rfl (by decide) (stp_move (.inl rfl) rfl) ?_
    refine awps_gs rfl rfl rfl rfl (by decide) rfl (by decide) ?_
    refine awps_gs rfl rfl rfl rfl (by decide) rfl (by decide) ?_
    refine awps_gs rfl rfl rfl rfl (by decide) rfl (by decide) ?_
    refine awps_gs rfl rfl rfl rfl (by decide) rfl (by decide) ?_
    refine awps_gs rfl rfl rfl rfl (by decide) rfl (by decide) ?_
    refine awps_stp0 rfl rfl (by decide) (stp_pick rfl rfl rfl) ?_
    refine awps_stp0 rfl rfl (by decide) (stp_move (.inl rfl) rfl) ?_
    refine awps_gs rfl rfl rfl rfl (by decide) rfl (by decide) ?_
    refine awps_gs rfl rfl rfl rfl (by decide) rfl (by decide) ?_
    refine awps_gs rfl rfl rfl rfl (by decide) rfl (by decide) ?_
    refine awps_gs rfl rfl rfl rfl (by decide) rfl (by decide) ?_
    refine awps_gs rfl rfl rfl rfl (by decide) rfl (by decide) ?_
    refine awps_stp0 rfl rfl (by decide) (stp_pick rfl rfl rfl) ?_
    refine awps_stp0 rfl rfl (by decide) (stp_move (.inr rfl) rfl) ?_
    refine awps_nil ?_
    refine thenQ_nil ?_
    refine awp_ret ?_
    -- leaf g10F
    refine ret0 (noL hL) (.inl rfl) (resAs_tmp rfl (resAs_nil)) ?_ ?_
    · rfl
    refine ⟨bool_w ?_, rfl⟩
    simp_all [eqT, data_inj]
end Go.Proofs.Ytdecgkhdbfgldaa
