/- Walks: the page's own words on terms' variables and order. -/
import Derived.Test.YtdecgkhdbfgldaaFe
set_option linter.unusedVariables false
set_option linter.unusedSimpArgs false
set_option maxRecDepth 8000
namespace Go.Proofs.Ytdecgkhdbfgldaa
open Go

theorem mayL_size (d : Nat) (ih : ∀ (t : Tm) (n : Int), 0 ≤ n → n ≤ 24 → ((mayS d t n).1 = true ↔ sizeS d t ≤ n) ∧ ((mayS d t n).1 = true → (mayS d t n).2 = n - sizeS d t)) : ∀ (l : List Tm) (k n : Int), 0 ≤ k → k ≤ n → n ≤ 24 → ((mayL (mayS d) l (n - k)).1 = true ↔ sizeL (sizeS d) k l ≤ n) ∧ ((mayL (mayS d) l (n - k)).1 = true → (mayL (mayS d) l (n - k)).2 = n - sizeL (sizeS d) k l)
  | [], k, n, h0, h1, h2 => by simp [mayL, sizeL]; omega
  | a :: l, k, n, h0, h1, h2 => by
    have h3 := ih a (n - k) (by omega) (by omega)
    have h4 := sizeS_ge d a
    simp only [mayL, sizeL]
    rw [if_pos (show k ≤ 24 by omega)]
    by_cases hb : (mayS d a (n - k)).1 = true
    · rw [if_pos hb, h3.2 hb, show n - k - sizeS d a = n - (k + sizeS d a) by omega]
      exact mayL_size d ih l (k + sizeS d a) n (by omega) (by have := h3.1.1 hb; omega) h2
    · rw [if_neg hb]
      have h5 : ¬ sizeS d a ≤ n - k := fun h => hb (h3.1.2 h)
      have h6 := sizeL_ge (sizeS d) (fun t => by have := sizeS_ge d t; omega) (k + sizeS d a) l
      simp; omega
theorem mayS_size : ∀ (d : Nat) (t : Tm) (n : Int), 0 ≤ n → n ≤ 24 → ((mayS d t n).1 = true ↔ sizeS d t ≤ n) ∧ ((mayS d t n).1 = true → (mayS d t n).2 = n - sizeS d t)
  | 0, t, n, h0, h1 => by simp [mayS, sizeS]; omega
  | d + 1, t, n, h0, h1 => by
    have hge := sizeS_ge (d + 1) t
    by_cases hn : n - 1 < 0
    · rw [mayS, if_pos hn]; simp; omega
    rw [mayS, if_neg hn]
    by_cases k1 : t.kind = 1
    · rw [if_pos k1, sizeS, if_pos k1]
      simp only [Bool.and_eq_true, decide_eq_true_eq]
      split
      · rename_i h; simp [h]; omega
      · rename_i h; refine ⟨⟨fun hh => absurd ⟨hh.1.1, hh.1.2, hh.2⟩ h, fun hh => by omega⟩, fun hh => absurd ⟨hh.1.1, hh.1.2, hh.2⟩ h⟩
    rw [if_neg k1, sizeS, if_neg k1]
    by_cases k2 : t.kind = 2
    · rw [if_pos k2, if_pos k2]
      simp only [Bool.and_eq_true, decide_eq_true_eq, numB]
      split
      · rename_i h; simp [h]; omega
      · rename_i h; refine ⟨⟨fun hh => absurd ⟨hh.1.2, hh.1.1, hh.2⟩ h, fun hh => by omega⟩, fun hh => absurd ⟨hh.1.2, hh.1.1, hh.2⟩ h⟩
    rw [if_neg k2, if_neg k2]
    by_cases k3 : t.kind = 3
    · rw [if_pos k3, if_pos k3]
      simp only [Bool.and_eq_true, decide_eq_true_eq]
      by_cases hc : (nameB t.name = true ∧ t.n = 0) ∧ t.args.length ≤ 4
      · rw [if_pos hc]
        by_cases hd : 0 < t.args.length ∧ d = 0
        · rw [if_pos (by right; right; right; exact hd)]
          obtain ⟨h1', rfl⟩ := hd
          cases ha : t.args with
          | nil => rw [ha] at h1'; simp at h1'
          | cons a l => simp [mayL, mayS]; omega
        · rw [if_neg (by
            rintro (h | h | h | h)
            · rw [hc.1.1] at h; cases h
            · exact h hc.1.2
            · omega
            · exact hd h)]
          exact mayL_size d (mayS_size d) t.args 1 n (by omega) (by omega) h1
      · rw [if_neg hc, if_pos (by
          by_cases e1 : nameB t.name = true
          · by_cases e2 : t.n = 0
            · right; right; left
              have : ¬ t.args.length ≤ 4 := fun h => hc ⟨⟨e1, e2⟩, h⟩
              omega
            · exact .inr (.inl e2)
          · exact .inl (by simpa using e1))]
        simp; omega
    · rw [if_neg k3, if_neg k3]; simp; omega
theorem mayT_size (t : Tm) : mayT t = decide (sizeS 5 t ≤ 24) := by
  have := (mayS_size 5 t 24 (by omega) (by omega)).1
  rw [mayT, Bool.eq_iff_iff, this]; simp
theorem rTerm_ok (t : Tm) (ht : t.wf) : PF 13 [tmA false t] (bv (mayT t)) := by
  refine AC_intro Try.func13 rfl Try.ntmps13 (Nat.le_of_ble_eq_true rfl) fun c hL => ?_
  refine awp_seq ?_
  refine awp_region ?_
  refine awps_stp1 rfl rfl (by decide) (stp_box 1 rfl rfl rfl) rfl ?_
  refine awps_stp0 rfl rfl (by decide) (stp_move (.inr rfl) rfl) ?_
  refine awps_nil ?_
  refine thenQ_nil ?_
  refine awp_seq ?_
  refine awp_region ?_
  first | refine awps_stp0 rfl rfl (by decide) (stp_load_all rfl tf_api_Term rfl rfl rfl rfl) ?_ | refine awps_stp0 rfl rfl (by decide) (stp_load rfl tf_api_Term rfl rfl rfl rfl rfl) ?_ | refine awps_stp0 rfl rfl (by decide) (stp_load_elpa rfl tf_api_Term rfl rfl) ?_ | refine awps_stp0 rfl rfl (by decide) (stp_load_elpn rfl tf_api_Term rfl rfl rfl) ?_
  refine awps_call (avs := [_, _]) true rfl rfl rfl (by decide) en_almagestref1_size rfl rfl (rsize_ok 5 (by omega) (by omega) 5 rfl t ht) rfl rfl ?_
  refine awps_stp0 rfl rfl (by decide) (stp_binI rfl rfl rfl rfl) ?_
  refine awps_stp0 rfl rfl (by decide) (stp_move (.inr rfl) rfl) ?_
  refine awps_nil ?_
  refine thenQ_nil ?_
  refine awp_ret ?_
  -- leaf 
  refine ret0 (noL hL) (.inl rfl) (resAs_tmp rfl (resAs_nil)) ?_ ?_
  · rfl
  refine ⟨bool_w ?_, rfl⟩
  rw [mayT_size]

theorem strDs_get {l : List ByteArray} {i : Nat} {s : ByteArray} (h : l[i]? = some s) : (strDs l)[i]? = some [.imm (.string s)] := by simp [strDs, h]
theorem strDs_snoc (l : List ByteArray) (u : ByteArray) : strDs (l ++ [u]) = strDs l ++ [[.imm (.string u)]] := by simp [strDs]
theorem CopyStrings_ok (l : List ByteArray) (es : List (List D)) (hes : es = strDs l) (hl : l.length ≤ 1000000) : AC Try.prog 126 [.dat false 1 es] [] (fun r O => r = .row 3 ∧ O = [(3, .rowd 9 1 true (strDs l))]) := by
  subst hes
  have hlen := strDs_length l
  refine AC_intro Try.func126 rfl Try.ntmps126 (Nat.le_of_ble_eq_true rfl) fun c hL => ?_
  refine awp_seq ?_
  refine awp_region ?_
  refine awps_stp0 rfl rfl (by decide) (stp_move (.inr rfl) rfl) ?_
  refine awps_nil ?_
  refine thenQ_nil ?_
  refine awp_seq ?_
  refine awp_region ?_
  refine awps_stp0 rfl rfl (by decide) (stp_move (.inr rfl) rfl) ?_
  refine awps_nil ?_
  refine thenQ_nil ?_
  refine awp_seq ?_
  refine awp_seq ?_
  refine awp_region ?_
  refine awps_stp0 rfl rfl (by decide) (stp_move (.inr rfl) rfl) ?_
  refine awps_nil ?_
  refine thenQ_nil ?_
  refine awp_block ?_
  refine awp_while (l.length) (fun k => k ≤ l.length) (fun k => ⟨[(0, .dat false 1 (strDs l)), (3, .row 3), (4, iv (k : Int))], [(3, .rowd 9 1 true (strDs (l.take k)))]⟩) (by omega) ?_ (fun k hk hp => ?_)
  · exact Sub.trans (sub_nil_row (t := 3) (l := 3) 9 1 true rfl rfl) (sub_re (SubT.cons (lk_eq rfl (by first | rfl | simp)) (SubT.cons (lk_eq rfl (by first | rfl | simp)) (SubT.cons (lk_eq rfl (by first | rfl | simp)) (SubT.nil)))) (SubO.cons (ok_eq rfl (by rfl)) (SubO.nil)) rfl rfl (noL' (noL hL) _))
  have hl2 := strDs_length (l.take k)
  have hl3 : (l.take k).length ≤ l.length := by simp; omega
  refine awp_seq ?_
  refine awp_seq ?_
  refine awp_region ?_
  refine awps_stp0 rfl rfl (by decide) (stp_move (.inl rfl) rfl) ?_
  refine awps_stp0 rfl rfl (by decide) (stp_move (.inl rfl) rfl) ?_
  first | refine awps_stp0 rfl rfl (by decide) (stp_len_dat rfl sl_S_string rfl) ?_ | refine awps_stp0 rfl rfl (by decide) (stp_len_rowd rfl sl_S_string rfl rfl) ?_ | refine awps_stp0 rfl rfl (by decide) (stp_len_nil rfl sl_S_string rfl) ?_
  refine awps_stp0 rfl rfl (by decide) (stp_binI rfl rfl rfl rfl) ?_
  refine awps_nil ?_
  refine thenQ_nil ?_
  refine awp_cond rfl (fun c0 => ?_) (fun c0 => ?_)
  · try simp only [↓str_beq_t, ↓str_beq_f, decide_eq_true_eq, decide_eq_false_iff_not, Bool.not_eq_true', Bool.not_eq_false', Int.not_lt, Int.not_le, beq_iff_eq, beq_eq_false_iff_ne, bne_iff_ne, bne_eq_false_iff_eq, ne_eq] at c0
    obtain ⟨u, hu⟩ := get_of_lt (l := l) (k := k) (by omega)
    refine awp_skip ?_
    refine thenQ_nil ?_
    refine awp_seq ?_
    refine awp_block ?_
    refine awp_region ?_
    refine awps_stp0 rfl rfl (by decide) (stp_move (.inl rfl) rfl) ?_
    refine awps_stp0 rfl rfl (by decide) (stp_move (.inl rfl) rfl) ?_
    refine awps_stp0 rfl rfl (by decide) (stp_move (.inl rfl) rfl) ?_
    first | refine awps_stp0 rfl rfl (by decide) (stp_indexAddr rfl sl_S_string rfl rfl (by omega) (strDs_get hu)) ?_ | refine awps_stp0 rfl rfl (by decide) (stp_indexAddr_rowd rfl sl_S_string rfl rfl rfl (by omega) (strDs_get hu)) ?_ | refine awps_stp0 rfl rfl (by decide) (stp_indexAddr_row rfl sl_S_string rfl rfl rfl (by omega) (strDs_get hu) (by decide)) ?_
    first | refine awps_stp0 rfl rfl (by decide) (stp_load rfl tf_string rfl rfl rfl rfl rfl) ?_ | refine awps_stp0 rfl rfl (by decide) (stp_load_elp1 rfl tf_string rfl) ?_ | refine awps_stp0 rfl rfl (by decide) (stp_load_elpn rfl tf_string rfl rfl rfl) ?_
    refine awps_stp1 rfl rfl (by decide) (stp_buildSlice 16 rfl sl_S_string zv_string rfl rfl (by decide) (by decide) (by decide) rfl rfl rfl) rfl ?_
    first | refine awps_u rfl rfl (by decide) (stpU_append1 17 ta_S_string rfl rfl rfl rfl rfl rfl rfl rfl (noL hL _) (by omega) rfl) rfl ?_ | refine awps_u rfl rfl (by decide) (stpU_appendd 17 ta_S_string rfl rfl rfl rfl rfl (noL hL _) (by simp) (by omega) rfl) rfl ?_ | refine awps_u rfl rfl (by decide) (stpU_appendi 17 ta_S_string rfl rfl rfl rfl (rfl) rfl (noL hL _) (by simp) (by omega) rfl) rfl ?_
    refine awps_stp0 rfl rfl (by decide) (stp_move (.inr rfl) rfl) ?_
    refine awps_nil ?_
    refine inQ_nil ?_
    refine thenQ_nil ?_
    refine awp_region ?_
    refine awps_stp0 rfl rfl (by decide) (stp_move (.inl rfl) rfl) ?_
    refine awps_stp0 rfl rfl (by decide) (stp_add rfl rfl rfl (by omega)) ?_
    refine awps_stp0 rfl rfl (by decide) (stp_move (.inr rfl) rfl) ?_
    refine awps_nil ?_
    refine thenQ_nil ?_
    refine ⟨?_, ?_, ?_⟩
    · skip
      omega
    · skip
      omega
    exact Sub.trans (sub_rename 17 3 (noL hL _) (noL hL _)) (sub_re (SubT.cons (lk_eq rfl (by first | rfl | simp)) (SubT.cons (lk_eq rfl (by first | rfl | simp)) (SubT.cons (lk_eq rfl (by first | rfl | simp)) (SubT.nil)))) (SubO.cons (ok_eq rfl (by rw [take_snoc hu, strDs_snoc]; rfl)) (SubO.nil)) rfl rfl (noL' (noL hL) _))
  try simp only [↓str_beq_t, ↓str_beq_f, decide_eq_true_eq, decide_eq_false_iff_not, Bool.not_eq_true', Bool.not_eq_false', Int.not_lt, Int.not_le, beq_iff_eq, beq_eq_false_iff_ne, bne_iff_ne, bne_eq_false_iff_eq, ne_eq] at c0
  refine awp_exit ?_
  refine thenQ_exit (thenQ_exit (inQ_hit ?_))
  refine thenQ_nil ?_
  refine awp_seq ?_
  refine awp_region ?_
  refine awps_stp0 rfl rfl (by decide) (stp_move (.inl rfl) rfl) ?_
  refine awps_stp0 rfl rfl (by decide) (stp_move (.inr rfl) rfl) ?_
  refine awps_nil ?_
  refine thenQ_nil ?_
  refine awp_ret ?_
  -- leaf 0F
  change retQ _ _ _ _ _ _ _
  refine retO (O' := [(3, _)]) (.inl rfl) (resAs_tmp rfl resAs_nil) (SubO.cons rfl SubO.nil) ?_ ?_ (noL' (noL hL) _) ?_
  · rfl
  · rfl
  exact ⟨rfl, by rw [List.take_of_length_le (by omega)]⟩

def ltS (a b : ByteArray) : Bool := Op.bytesLess a.toList b.toList
def posS (l : List ByteArray) (x : ByteArray) : Nat := (l.takeWhile (fun s => ltS s x)).length
theorem posS_le (l : List ByteArray) (x : ByteArray) : posS l x ≤ l.length := (List.takeWhile_prefix _).length_le
theorem posS_eq (x : ByteArray) : ∀ (l : List ByteArray) (k : Nat), k ≤ l.length → (∀ j s, j < k → l[j]? = some s → ltS s x = true) → (∀ s, l[k]? = some s → ltS s x = false) → posS l x = k
  | [], k, h, _, _ => by simp at h; subst h; rfl
  | a :: l, 0, _, _, h2 => by
    have := h2 a (by simp)
    simp [posS, List.takeWhile_cons, this]
  | a :: l, k + 1, h, h1, h2 => by
    have h0 := h1 0 a (by omega) (by simp)
    have ih := posS_eq x l k (by simpa using h) (fun j s hj hs => h1 (j + 1) s (by omega) (by simpa using hs)) (fun s hs => h2 s (by simpa using hs))
    simp only [posS] at ih ⊢
    rw [List.takeWhile_cons, if_pos h0, List.length_cons, ih]
def insertS (l : List ByteArray) (x : ByteArray) : List ByteArray := if l[posS l x]? = some x then l else l.take (posS l x) ++ [x] ++ l.drop (posS l x)
def namesR (a b : List ByteArray) : List ByteArray := b.foldl insertS a
theorem namesR_snoc (a b : List ByteArray) (u : ByteArray) : namesR a (b ++ [u]) = insertS (namesR a b) u := by simp [namesR]
theorem insertS_len (l : List ByteArray) (x : ByteArray) : (insertS l x).length ≤ l.length + 1 := by
  unfold insertS
  split
  · omega
  · simp; omega
theorem namesR_len : ∀ (b a : List ByteArray), (namesR a b).length ≤ a.length + b.length
  | [], a => by simp [namesR]
  | x :: b, a => by
    have h1 := namesR_len b (insertS a x)
    have h2 := insertS_len a x
    simp only [namesR, List.foldl_cons, List.length_cons] at h1 ⊢; omega
theorem strDs_take (l : List ByteArray) (k : Nat) : (strDs l).take k = strDs (l.take k) := by simp [strDs, List.map_take]
theorem strDs_drop (l : List ByteArray) (k : Nat) : (strDs l).drop k = strDs (l.drop k) := by simp [strDs, List.map_drop]
theorem immDs_str (l : List ByteArray) : immDs (strDs l) = true := by
  induction l with
  | nil => rfl
  | cons a l ih => simp only [strDs, List.map_cons, immDs, List.all_cons, List.all_nil, Bool.and_true, Bool.true_and] at ih ⊢; exact ih
theorem strDs_one (l : List ByteArray) : ∀ d ∈ strDs l, d.length = 1 := fun d hd => by simp only [strDs, List.mem_map] at hd; obtain ⟨x, _, rfl⟩ := hd; rfl

theorem rNames_ok (a b : List ByteArray) (ha : a.length + b.length ≤ 1000000) : PF 90 [.dat false 1 (strDs a), .dat false 1 (strDs b)] (.dat true 1 (strDs (namesR a b))) := by
  have hla := strDs_length a
  have hlb := strDs_length b
  refine AC_intro Try.func90 rfl Try.ntmps90 (Nat.le_of_ble_eq_true rfl) fun c hL => ?_
  refine awp_seq ?_
  refine awp_region ?_
  refine awps_stp0 rfl rfl (by decide) (stp_move (.inr rfl) rfl) ?_
  refine awps_nil ?_
  refine thenQ_nil ?_
  refine awp_seq ?_
  refine awp_region ?_
  refine awps_stp0 rfl rfl (by decide) (stp_move (.inl rfl) rfl) ?_
  refine awps_u rfl rfl (by decide) (stpU_call (avs := [_]) true rfl en_almagestref0_CopyStrings rfl rfl (CopyStrings_ok a _ rfl (by omega)) (fun _ => rfl) rfl) rfl ?_
  refine awps_stp0 rfl rfl (by decide) (stp_move (.inr rfl) rfl) ?_
  refine awps_nil ?_
  refine thenQ_nil ?_
  refine awp_seq ?_
  refine awp_seq ?_
  refine awp_sub (sub_freeze (l := 3) rfl (by decide) (noL hL _) rfl rfl) ?_
  refine awp_region ?_
  refine awps_stp0 rfl rfl (by decide) (stp_move (.inr rfl) rfl) ?_
  refine awps_nil ?_
  refine thenQ_nil ?_
  refine awp_block ?_
  refine awp_while (b.length) (fun k => k ≤ b.length) (fun k => ⟨[(1, .dat false 1 (strDs b)), (5, .dat true 1 (strDs (namesR a (b.take k)))), (6, iv (k : Int))], []⟩) (by omega) ?_ (fun k hk hp => ?_)
  · exact sub_re (SubT.cons (lk_eq rfl (by first | rfl | simp)) (SubT.cons (lk_eq rfl (by first | rfl | simp)) (SubT.cons (lk_eq rfl (by first | rfl | simp)) (SubT.nil)))) (SubO.nil) rfl rfl (noL' (noL hL) _)
  have hl1 := namesR_len (b.take k) a
  have hl2 : (b.take k).length ≤ b.length := by simp; omega
  have hl3 := strDs_length (namesR a (b.take k))
  refine awp_seq ?_
  refine awp_seq ?_
  refine awp_region ?_
  refine awps_stp0 rfl rfl (by decide) (stp_move (.inl rfl) rfl) ?_
  refine awps_stp0 rfl rfl (by decide) (stp_move (.inl rfl) rfl) ?_
  first | refine awps_stp0 rfl rfl (by decide) (stp_len_dat rfl sl_S_string rfl) ?_ | refine awps_stp0 rfl rfl (by decide) (stp_len_rowd rfl sl_S_string rfl rfl) ?_ | refine awps_stp0 rfl rfl (by decide) (stp_len_nil rfl sl_S_string rfl) ?_
  refine awps_stp0 rfl rfl (by decide) (stp_binI rfl rfl rfl rfl) ?_
  refine awps_nil ?_
  refine thenQ_nil ?_
  refine awp_cond rfl (fun c0 => ?_) (fun c0 => ?_)
  · try simp only [↓str_beq_t, ↓str_beq_f, decide_eq_true_eq, decide_eq_false_iff_not, Bool.not_eq_true', Bool.not_eq_false', Int.not_lt, Int.not_le, beq_iff_eq, beq_eq_false_iff_ne, bne_iff_ne, bne_eq_false_iff_eq, ne_eq] at c0
    obtain ⟨u, hu⟩ := get_of_lt (l := b) (k := k) (by omega)
    have hbk : (b.take (k + 1)).length ≤ b.length := by simp; omega
    refine awp_skip ?_
    refine thenQ_nil ?_
    refine awp_seq ?_
    refine awp_block ?_
    refine awp_seq ?_
    refine awp_region ?_
    refine awps_stp0 rfl rfl (by decide) (stp_move (.inr rfl) rfl) ?_
    refine awps_nil ?_
    refine thenQ_nil ?_
    refine awp_seq ?_
    refine awp_block ?_
    refine awp_while ((namesR a (b.take k)).length) (fun i => i ≤ (namesR a (b.take k)).length ∧ ∀ j s, j < i → (namesR a (b.take k))[j]? = some s → ltS s u = true) (fun i => ⟨[(1, .dat false 1 (strDs b)), (5, .dat true 1 (strDs (namesR a (b.take k)))), (6, iv (k : Int)), (7, iv (i : Int))], []⟩) (⟨by omega, fun j s hj => absurd hj (by omega)⟩) ?_ (fun i hi hpi => ?_)
    · exact sub_re (SubT.cons (lk_eq rfl (by first | rfl | simp)) (SubT.cons (lk_eq rfl (by first | rfl | simp)) (SubT.cons (lk_eq rfl (by first | rfl | simp)) (SubT.cons (lk_eq rfl (by first | rfl | simp)) (SubT.nil))))) (SubO.nil) rfl rfl (noL' (noL hL) _)
    refine awp_seq ?_
    refine awp_seq ?_
    rcases Bool.eq_false_or_eq_true (decide ((i : Int) < ((strDs (namesR a (b.take k))).length : Int))) with l19 | l19
    · have m19 := l19
      try simp only [↓str_beq_t, ↓str_beq_f, decide_eq_true_eq, decide_eq_false_iff_not, Bool.not_eq_true', Bool.not_eq_false', Int.not_lt, Int.not_le, beq_iff_eq, beq_eq_false_iff_ne, bne_iff_ne, bne_eq_false_iff_eq, ne_eq] at m19
      obtain ⟨v, hv⟩ := get_of_lt (l := namesR a (b.take k)) (k := i) (by omega)
      refine awp_drawG 13 mixed rfl rfl rfl rfl ?_
      refine MGo_c0 rfl (by decide) (.run rfl (stp_move (.inl rfl) rfl)) ?_
      refine MGo_c0 rfl (by decide) (.run rfl (stp_move (.inl rfl) rfl)) ?_
      first | refine MGo_c0 rfl (by decide) (.run rfl (stp_len_dat rfl sl_S_string rfl)) ?_ | refine MGo_c0 rfl (by decide) (.run rfl (stp_len_rowd rfl sl_S_string rfl rfl)) ?_ | refine MGo_c0 rfl (by decide) (.run rfl (stp_len_nil rfl sl_S_string rfl)) ?_
      refine MGo_c0 rfl (by decide) (.run rfl (stp_binI (r := .bool true) rfl rfl rfl (congrArg (fun b => some (Value.bool b)) l19))) ?_
      refine MGo_c0 rfl (by decide) (.run rfl (stp_move (.inl rfl) rfl)) ?_
      refine MGo_c0 rfl (by decide) (.want rfl rfl rfl (by decide) (stp_move (.inl rfl) rfl)) ?_
      refine MGo_c0 rfl (by decide) (.want rfl rfl rfl (by decide) (stp_move (.inl rfl) rfl)) ?_
      first | refine MGo_c0 rfl (by decide) (.want rfl rfl rfl (by decide) (stp_indexAddr rfl sl_S_string rfl rfl (by omega) (strDs_get hv))) ?_ | refine MGo_c0 rfl (by decide) (.want rfl rfl rfl (by decide) (stp_indexAddr_rowd rfl sl_S_string rfl rfl rfl (by omega) (strDs_get hv))) ?_ | refine MGo_c0 rfl (by decide) (.want rfl rfl rfl (by decide) (stp_indexAddr_row rfl sl_S_string rfl rfl rfl (by omega) (strDs_get hv) (by decide))) ?_
      first | refine MGo_c0 rfl (by decide) (.want rfl rfl rfl (by decide) (stp_load rfl tf_string rfl rfl rfl rfl rfl)) ?_ | refine MGo_c0 rfl (by decide) (.want rfl rfl rfl (by decide) (stp_load_elp1 rfl tf_string rfl)) ?_ | refine MGo_c0 rfl (by decide) (.want rfl rfl rfl (by decide) (stp_load_elpn rfl tf_string rfl rfl rfl)) ?_
      refine MGo_c0 rfl (by decide) (.want rfl rfl rfl (by decide) (stp_move (.inl rfl) rfl)) ?_
      refine MGo_c0 rfl (by decide) (.want rfl rfl rfl (by decide) (stp_move (.inl rfl) rfl)) ?_
      first | refine MGo_c0 rfl (by decide) (.want rfl rfl rfl (by decide) (stp_indexAddr rfl sl_S_string rfl rfl (by omega) (strDs_get hu))) ?_ | refine MGo_c0 rfl (by decide) (.want rfl rfl rfl (by decide) (stp_indexAddr_rowd rfl sl_S_string rfl rfl rfl (by omega) (strDs_get hu))) ?_ | refine MGo_c0 rfl (by decide) (.want rfl rfl rfl (by decide) (stp_indexAddr_row rfl sl_S_string rfl rfl rfl (by omega) (strDs_get hu) (by decide))) ?_
      first | refine MGo_c0 rfl (by decide) (.want rfl rfl rfl (by decide) (stp_load rfl tf_string rfl rfl rfl rfl rfl)) ?_ | refine MGo_c0 rfl (by decide) (.want rfl rfl rfl (by decide) (stp_load_elp1 rfl tf_string rfl)) ?_ | refine MGo_c0 rfl (by decide) (.want rfl rfl rfl (by decide) (stp_load_elpn rfl tf_string rfl rfl rfl)) ?_
      refine MGo_nil ⟨rfl, rfl, ?_⟩
      refine awps_g0 rfl rfl rfl (by decide) rfl (by decide) (stp_binS rfl rfl rfl rfl) ?_
      refine awps_stp0 rfl rfl (by decide) (stp_pick rfl rfl rfl) ?_
      refine awps_nil ?_
      refine thenQ_nil ?_
      refine awp_cond rfl (fun c1 => ?_) (fun c1 => ?_)
      · try simp only [↓str_beq_t, ↓str_beq_f, decide_eq_true_eq, decide_eq_false_iff_not, Bool.not_eq_true', Bool.not_eq_false', Int.not_lt, Int.not_le, beq_iff_eq, beq_eq_false_iff_ne, bne_iff_ne, bne_eq_false_iff_eq, ne_eq] at c1
        refine awp_skip ?_
        refine thenQ_nil ?_
        refine awp_block ?_
        refine awp_region ?_
        refine awps_stp0 rfl rfl (by decide) (stp_move (.inl rfl) rfl) ?_
        refine awps_stp0 rfl rfl (by decide) (stp_add rfl rfl rfl (by omega)) ?_
        refine awps_stp0 rfl rfl (by decide) (stp_move (.inr rfl) rfl) ?_
        refine awps_nil ?_
        refine inQ_nil ?_
        refine thenQ_nil ?_
        refine ⟨?_, ?_, ?_⟩
        · skip
          omega
        · skip
          refine ⟨by omega, fun j s hj hs => ?_⟩
          by_cases hji : j < i
          · exact hpi.2 j s hji hs
          · rw [show j = i by omega, hv] at hs; cases hs; exact c1
        exact sub_re (SubT.cons (lk_eq rfl (by first | rfl | simp)) (SubT.cons (lk_eq rfl (by first | rfl | simp)) (SubT.cons (lk_eq rfl (by first | rfl | simp)) (SubT.cons (lk_eq rfl (by first | rfl | simp)) (SubT.nil))))) (SubO.nil) rfl rfl (noL' (noL hL) _)
      try simp only [↓str_beq_t, ↓str_beq_f, decide_eq_true_eq, decide_eq_false_iff_not, Bool.not_eq_true', Bool.not_eq_false', Int.not_lt, Int.not_le, beq_iff_eq, beq_eq_false_iff_ne, bne_iff_ne, bne_eq_false_iff_eq, ne_eq] at c1
      have hpos : posS (namesR a (b.take k)) u = i := posS_eq u _ i hpi.1 hpi.2 (fun s hs => by rw [hv] at hs; cases hs; exact c1)
      refine awp_exit ?_
      refine thenQ_exit (thenQ_exit (inQ_hit ?_))
      refine thenQ_nil ?_
      refine awp_seq ?_
      refine awp_seq ?_
      rcases Bool.eq_false_or_eq_true (decide ((i : Int) < ((strDs (namesR a (b.take k))).length : Int))) with l36 | l36
      · have m36 := l36
        try simp only [↓str_beq_t, ↓str_beq_f, decide_eq_true_eq, decide_eq_false_iff_not, Bool.not_eq_true', Bool.not_eq_false', Int.not_lt, Int.not_le, beq_iff_eq, beq_eq_false_iff_ne, bne_iff_ne, bne_eq_false_iff_eq, ne_eq] at m36
        obtain ⟨v, hv⟩ := get_of_lt (l := namesR a (b.take k)) (k := i) (by omega)
        refine awp_drawG 13 mixed rfl rfl rfl rfl ?_
        refine MGo_c0 rfl (by decide) (.run rfl (stp_move (.inl rfl) rfl)) ?_
        refine MGo_c0 rfl (by decide) (.run rfl (stp_move (.inl rfl) rfl)) ?_
        first | refine MGo_c0 rfl (by decide) (.run rfl (stp_len_dat rfl sl_S_string rfl)) ?_ | refine MGo_c0 rfl (by decide) (.run rfl (stp_len_rowd rfl sl_S_string rfl rfl)) ?_ | refine MGo_c0 rfl (by decide) (.run rfl (stp_len_nil rfl sl_S_string rfl)) ?_
        refine MGo_c0 rfl (by decide) (.run rfl (stp_binI (r := .bool true) rfl rfl rfl (congrArg (fun b => some (Value.bool b)) l36))) ?_
        refine MGo_c0 rfl (by decide) (.run rfl (stp_move (.inl rfl) rfl)) ?_
        refine MGo_c0 rfl (by decide) (.want rfl rfl rfl (by decide) (stp_move (.inl rfl) rfl)) ?_
        refine MGo_c0 rfl (by decide) (.want rfl rfl rfl (by decide) (stp_move (.inl rfl) rfl)) ?_
        first | refine MGo_c0 rfl (by decide) (.want rfl rfl rfl (by decide) (stp_indexAddr rfl sl_S_string rfl rfl (by omega) (strDs_get hv))) ?_ | refine MGo_c0 rfl (by decide) (.want rfl rfl rfl (by decide) (stp_indexAddr_rowd rfl sl_S_string rfl rfl rfl (by omega) (strDs_get hv))) ?_ | refine MGo_c0 rfl (by decide) (.want rfl rfl rfl (by decide) (stp_indexAddr_row rfl sl_S_string rfl rfl rfl (by omega) (strDs_get hv) (by decide))) ?_
        first | refine MGo_c0 rfl (by decide) (.want rfl rfl rfl (by decide) (stp_load rfl tf_string rfl rfl rfl rfl rfl)) ?_ | refine MGo_c0 rfl (by decide) (.want rfl rfl rfl (by decide) (stp_load_elp1 rfl tf_string rfl)) ?_ | refine MGo_c0 rfl (by decide) (.want rfl rfl rfl (by decide) (stp_load_elpn rfl tf_string rfl rfl rfl)) ?_
        refine MGo_c0 rfl (by decide) (.want rfl rfl rfl (by decide) (stp_move (.inl rfl) rfl)) ?_
        refine MGo_c0 rfl (by decide) (.want rfl rfl rfl (by decide) (stp_move (.inl rfl) rfl)) ?_
        first | refine MGo_c0 rfl (by decide) (.want rfl rfl rfl (by decide) (stp_indexAddr rfl sl_S_string rfl rfl (by omega) (strDs_get hu))) ?_ | refine MGo_c0 rfl (by decide) (.want rfl rfl rfl (by decide) (stp_indexAddr_rowd rfl sl_S_string rfl rfl rfl (by omega) (strDs_get hu))) ?_ | refine MGo_c0 rfl (by decide) (.want rfl rfl rfl (by decide) (stp_indexAddr_row rfl sl_S_string rfl rfl rfl (by omega) (strDs_get hu) (by decide))) ?_
        first | refine MGo_c0 rfl (by decide) (.want rfl rfl rfl (by decide) (stp_load rfl tf_string rfl rfl rfl rfl rfl)) ?_ | refine MGo_c0 rfl (by decide) (.want rfl rfl rfl (by decide) (stp_load_elp1 rfl tf_string rfl)) ?_ | refine MGo_c0 rfl (by decide) (.want rfl rfl rfl (by decide) (stp_load_elpn rfl tf_string rfl rfl rfl)) ?_
        refine MGo_nil ⟨rfl, rfl, ?_⟩
        refine awps_g0 rfl rfl rfl (by decide) rfl (by decide) (stp_binS rfl rfl rfl rfl) ?_
        refine awps_stp0 rfl rfl (by decide) (stp_pick rfl rfl rfl) ?_
        refine awps_nil ?_
        refine thenQ_nil ?_
        refine awp_cond rfl (fun c2 => ?_) (fun c2 => ?_)
        · try simp only [↓str_beq_t, ↓str_beq_f, decide_eq_true_eq, decide_eq_false_iff_not, Bool.not_eq_true', Bool.not_eq_false', Int.not_lt, Int.not_le, beq_iff_eq, beq_eq_false_iff_ne, bne_iff_ne, bne_eq_false_iff_eq, ne_eq] at c2
          have hins : namesR a (b.take (k + 1)) = namesR a (b.take k) := by rw [take_snoc hu, namesR_snoc, insertS, hpos, if_pos (by rw [hv, c2])]
          refine awp_exit ?_
          refine thenQ_exit (inQ_hit ?_)
          refine thenQ_nil ?_
          refine awp_region ?_
          refine awps_stp0 rfl rfl (by decide) (stp_move (.inl rfl) rfl) ?_
          refine awps_stp0 rfl rfl (by decide) (stp_add rfl rfl rfl (by omega)) ?_
          refine awps_stp0 rfl rfl (by decide) (stp_move (.inr rfl) rfl) ?_
          refine awps_nil ?_
          refine thenQ_nil ?_
          refine ⟨?_, ?_, ?_⟩
          · skip
            omega
          · skip
            omega
          exact sub_re (SubT.cons (lk_eq rfl (by first | rfl | simp)) (SubT.cons (lk_eq rfl (by first | (rw [hins]; done) | (rw [hins2]; show AV.dat true 1 _ = AV.dat true 1 _; congr 1; simp [strDs, List.map_take, List.map_drop, List.take_of_length_le]; done))) (SubT.cons (lk_eq rfl (by first | rfl | simp)) (SubT.nil)))) (SubO.nil) rfl rfl (noL' (noL hL) _)
        try simp only [↓str_beq_t, ↓str_beq_f, decide_eq_true_eq, decide_eq_false_iff_not, Bool.not_eq_true', Bool.not_eq_false', Int.not_lt, Int.not_le, beq_iff_eq, beq_eq_false_iff_ne, bne_iff_ne, bne_eq_false_iff_eq, ne_eq] at c2
        have hno : ¬ (namesR a (b.take k))[i]? = some u := fun h => by rw [hv] at h; exact c2 (Option.some.inj h)
        refine awp_skip ?_
        refine thenQ_nil ?_
        have hins2 : namesR a (b.take (k + 1)) = (namesR a (b.take k)).take i ++ [u] ++ (namesR a (b.take k)).drop i := by rw [take_snoc hu, namesR_snoc, insertS, hpos, if_neg hno]
        refine awp_drawG 13 mixed rfl rfl rfl rfl ?_
        refine MGo_c0 rfl (by decide) (.run rfl (stp_move (.inl rfl) rfl)) ?_
        refine MGo_c0 rfl (by decide) (.run rfl (stp_move (.inl rfl) rfl)) ?_
        refine MGo_c0 rfl (by decide) (.run rfl (stp_slice_dat (i := 0) (j := (i : Int)) rfl sl_S_string rfl (fun y h => by cases h) (fun _ => rfl) (fun y h => by cases h; rfl) (fun h => by cases h) (by omega) (by omega) (by omega))) ?_
        refine MGo_u rfl rfl (by decide) (stpU_call (avs := [_]) true rfl en_almagestref0_CopyStrings rfl rfl (CopyStrings_ok ((namesR a (b.take k)).take i) _ (by simp [strDs_take]) (by simp; omega)) (fun _ => rfl) rfl) ?_
        refine MGo_c0 rfl (by decide) (.run rfl (stp_move (.inl rfl) rfl)) ?_
        refine MGo_c0 rfl (by decide) (.run rfl (stp_move (.inl rfl) rfl)) ?_
        first | refine MGo_c0 rfl (by decide) (.run rfl (stp_indexAddr rfl sl_S_string rfl rfl (by omega) (strDs_get hu))) ?_ | refine MGo_c0 rfl (by decide) (.run rfl (stp_indexAddr_rowd rfl sl_S_string rfl rfl rfl (by omega) (strDs_get hu))) ?_ | refine MGo_c0 rfl (by decide) (.run rfl (stp_indexAddr_row rfl sl_S_string rfl rfl rfl (by omega) (strDs_get hu) (by decide))) ?_
        first | refine MGo_c0 rfl (by decide) (.run rfl (stp_load rfl tf_string rfl rfl rfl rfl rfl)) ?_ | refine MGo_c0 rfl (by decide) (.run rfl (stp_load_elp1 rfl tf_string rfl)) ?_ | refine MGo_c0 rfl (by decide) (.run rfl (stp_load_elpn rfl tf_string rfl rfl rfl)) ?_
        refine MGo_c1 rfl (by decide) (.run rfl (stp_buildSlice 56 rfl sl_S_string zv_string rfl rfl (by decide) (by decide) (by decide) rfl rfl rfl)) ?_
        first | refine MGo_u rfl rfl (by decide) (stpU_append1 57 ta_S_string rfl rfl rfl rfl rfl rfl rfl rfl (noL hL _) (by rw [strDs_length, List.length_take]; omega) rfl) ?_ | refine MGo_u rfl rfl (by decide) (stpU_appendd 57 ta_S_string rfl rfl rfl rfl rfl (noL hL _) (by simp) (by rw [strDs_length, List.length_take]; omega) rfl) ?_ | refine MGo_u rfl rfl (by decide) (stpU_appendi 57 ta_S_string rfl rfl rfl rfl (rfl) rfl (noL hL _) (by simp) (by rw [strDs_length, List.length_take]; omega) rfl) ?_
        refine MGo_c0 rfl (by decide) (.run rfl (stp_move (.inl rfl) rfl)) ?_
        refine MGo_c0 rfl (by decide) (.run rfl (stp_move (.inl rfl) rfl)) ?_
        refine MGo_c0 rfl (by decide) (.run rfl (stp_slice_dat (i := (i : Int)) (j := ((strDs (namesR a (b.take k))).length : Int)) rfl sl_S_string rfl (fun y h => by cases h; rfl) (fun h => by cases h) (fun y h => by cases h) (fun _ => rfl) (by omega) (by omega) (by omega))) ?_
        refine MGo_nil ⟨rfl, rfl, ?_⟩
        first | refine awps_u rfl rfl (by decide) (stpU_append1 61 ta_S_string rfl rfl rfl rfl rfl rfl rfl rfl (noL hL _) (by simp [strDs_length]; omega) rfl) rfl ?_ | refine awps_u rfl rfl (by decide) (stpU_appendd 61 ta_S_string rfl rfl rfl rfl rfl (noL hL _) (by intro d hd; exact strDs_one _ d (List.mem_of_mem_take (List.mem_of_mem_drop hd))) (by simp [strDs_length]; omega) rfl) rfl ?_ | refine awps_u rfl rfl (by decide) (stpU_appendi 61 ta_S_string rfl rfl rfl rfl (rfl) rfl (noL hL _) (by intro d hd; exact strDs_one _ d (List.mem_of_mem_take (List.mem_of_mem_drop hd))) (by simp [strDs_length]; omega) rfl) rfl ?_
        refine awps_stp0 rfl rfl (by decide) (stp_move (.inr rfl) rfl) ?_
        refine awps_sub (sub_freeze (l := 61) rfl (by decide) (noL hL _) rfl rfl) ?_
        refine awps_nil ?_
        refine inQ_nil ?_
        refine thenQ_nil ?_
        refine awp_region ?_
        refine awps_stp0 rfl rfl (by decide) (stp_move (.inl rfl) rfl) ?_
        refine awps_stp0 rfl rfl (by decide) (stp_add rfl rfl rfl (by omega)) ?_
        refine awps_stp0 rfl rfl (by decide) (stp_move (.inr rfl) rfl) ?_
        refine awps_nil ?_
        refine thenQ_nil ?_
        refine ⟨?_, ?_, ?_⟩
        · skip
          omega
        · skip
          omega
        exact sub_re (SubT.cons (lk_eq rfl (by first | rfl | simp)) (SubT.cons (lk_eq rfl (by first | (rw [hins]; done) | (rw [hins2]; show AV.dat true 1 _ = AV.dat true 1 _; congr 1; simp [strDs, List.map_take, List.map_drop, List.take_of_length_le]; done))) (SubT.cons (lk_eq rfl (by first | rfl | simp)) (SubT.nil)))) (SubO.nil) rfl rfl (noL' (noL hL) _)
      have m36 := l36
      try simp only [↓str_beq_t, ↓str_beq_f, decide_eq_true_eq, decide_eq_false_iff_not, Bool.not_eq_true', Bool.not_eq_false', Int.not_lt, Int.not_le, beq_iff_eq, beq_eq_false_iff_ne, bne_iff_ne, bne_eq_false_iff_eq, ne_eq] at m36
      have hno : ¬ (namesR a (b.take k))[i]? = some u := fun h => by have := (List.getElem?_eq_some_iff.1 h).1; omega
      refine awp_drawG 13 mixed rfl rfl rfl rfl ?_
      refine MGo_c0 rfl (by decide) (.run rfl (stp_move (.inl rfl) rfl)) ?_
      refine MGo_c0 rfl (by decide) (.run rfl (stp_move (.inl rfl) rfl)) ?_
      first | refine MGo_c0 rfl (by decide) (.run rfl (stp_len_dat rfl sl_S_string rfl)) ?_ | refine MGo_c0 rfl (by decide) (.run rfl (stp_len_rowd rfl sl_S_string rfl rfl)) ?_ | refine MGo_c0 rfl (by decide) (.run rfl (stp_len_nil rfl sl_S_string rfl)) ?_
      refine MGo_c0 rfl (by decide) (.run rfl (stp_binI (r := .bool false) rfl rfl rfl (congrArg (fun b => some (Value.bool b)) l36))) ?_
      refine MGo_c0 rfl (by decide) (.run rfl (stp_move (.inl rfl) rfl)) ?_
      refine MGo_c0 rfl (by decide) (.skip rfl rfl rfl (by decide) (by decide)) ?_
      refine MGo_c0 rfl (by decide) (.skip rfl rfl rfl (by decide) (by decide)) ?_
      refine MGo_c0 rfl (by decide) (.skip rfl rfl rfl (by decide) (by decide)) ?_
      refine MGo_c0 rfl (by decide) (.skip rfl rfl rfl (by decide) (by decide)) ?_
      refine MGo_c0 rfl (by decide) (.skip rfl rfl rfl (by decide) (by decide)) ?_
      refine MGo_c0 rfl (by decide) (.skip rfl rfl rfl (by decide) (by decide)) ?_
      refine MGo_c0 rfl (by decide) (.skip rfl rfl rfl (by decide) (by decide)) ?_
      refine MGo_c0 rfl (by decide) (.skip rfl rfl rfl (by decide) (by decide)) ?_
      refine MGo_nil ⟨rfl, rfl, ?_⟩
      refine awps_gs rfl rfl rfl rfl (by decide) rfl (by decide) ?_
      refine awps_stp0 rfl rfl (by decide) (stp_pick rfl rfl rfl) ?_
      refine awps_nil ?_
      refine thenQ_nil ?_
      refine awp_condF rfl ?_
      refine awp_skip ?_
      refine thenQ_nil ?_
      have hins2 : namesR a (b.take (k + 1)) = (namesR a (b.take k)).take i ++ [u] ++ (namesR a (b.take k)).drop i := by rw [take_snoc hu, namesR_snoc, insertS, hpos, if_neg hno]
      refine awp_drawG 13 mixed rfl rfl rfl rfl ?_
      refine MGo_c0 rfl (by decide) (.run rfl (stp_move (.inl rfl) rfl)) ?_
      refine MGo_c0 rfl (by decide) (.run rfl (stp_move (.inl rfl) rfl)) ?_
      refine MGo_c0 rfl (by decide) (.run rfl (stp_slice_dat (i := 0) (j := (i : Int)) rfl sl_S_string rfl (fun y h => by cases h) (fun _ => rfl) (fun y h => by cases h; rfl) (fun h => by cases h) (by omega) (by omega) (by omega))) ?_
      refine MGo_u rfl rfl (by decide) (stpU_call (avs := [_]) true rfl en_almagestref0_CopyStrings rfl rfl (CopyStrings_ok ((namesR a (b.take k)).take i) _ (by simp [strDs_take]) (by simp; omega)) (fun _ => rfl) rfl) ?_
      refine MGo_c0 rfl (by decide) (.run rfl (stp_move (.inl rfl) rfl)) ?_
      refine MGo_c0 rfl (by decide) (.run rfl (stp_move (.inl rfl) rfl)) ?_
      first | refine MGo_c0 rfl (by decide) (.run rfl (stp_indexAddr rfl sl_S_string rfl rfl (by omega) (strDs_get hu))) ?_ | refine MGo_c0 rfl (by decide) (.run rfl (stp_indexAddr_rowd rfl sl_S_string rfl rfl rfl (by omega) (strDs_get hu))) ?_ | refine MGo_c0 rfl (by decide) (.run rfl (stp_indexAddr_row rfl sl_S_string rfl rfl rfl (by omega) (strDs_get hu) (by decide))) ?_
      first | refine MGo_c0 rfl (by decide) (.run rfl (stp_load rfl tf_string rfl rfl rfl rfl rfl)) ?_ | refine MGo_c0 rfl (by decide) (.run rfl (stp_load_elp1 rfl tf_string rfl)) ?_ | refine MGo_c0 rfl (by decide) (.run rfl (stp_load_elpn rfl tf_string rfl rfl rfl)) ?_
      refine MGo_c1 rfl (by decide) (.run rfl (stp_buildSlice 56 rfl sl_S_string zv_string rfl rfl (by decide) (by decide) (by decide) rfl rfl rfl)) ?_
      first | refine MGo_u rfl rfl (by decide) (stpU_append1 57 ta_S_string rfl rfl rfl rfl rfl rfl rfl rfl (noL hL _) (by rw [strDs_length, List.length_take]; omega) rfl) ?_ | refine MGo_u rfl rfl (by decide) (stpU_appendd 57 ta_S_string rfl rfl rfl rfl rfl (noL hL _) (by simp) (by rw [strDs_length, List.length_take]; omega) rfl) ?_ | refine MGo_u rfl rfl (by decide) (stpU_appendi 57 ta_S_string rfl rfl rfl rfl (rfl) rfl (noL hL _) (by simp) (by rw [strDs_length, List.length_take]; omega) rfl) ?_
      refine MGo_c0 rfl (by decide) (.run rfl (stp_move (.inl rfl) rfl)) ?_
      refine MGo_c0 rfl (by decide) (.run rfl (stp_move (.inl rfl) rfl)) ?_
      refine MGo_c0 rfl (by decide) (.run rfl (stp_slice_dat (i := (i : Int)) (j := ((strDs (namesR a (b.take k))).length : Int)) rfl sl_S_string rfl (fun y h => by cases h; rfl) (fun h => by cases h) (fun y h => by cases h) (fun _ => rfl) (by omega) (by omega) (by omega))) ?_
      refine MGo_nil ⟨rfl, rfl, ?_⟩
      first | refine awps_u rfl rfl (by decide) (stpU_append1 61 ta_S_string rfl rfl rfl rfl rfl rfl rfl rfl (noL hL _) (by simp [strDs_length]; omega) rfl) rfl ?_ | refine awps_u rfl rfl (by decide) (stpU_appendd 61 ta_S_string rfl rfl rfl rfl rfl (noL hL _) (by intro d hd; exact strDs_one _ d (List.mem_of_mem_take (List.mem_of_mem_drop hd))) (by simp [strDs_length]; omega) rfl) rfl ?_ | refine awps_u rfl rfl (by decide) (stpU_appendi 61 ta_S_string rfl rfl rfl rfl (rfl) rfl (noL hL _) (by intro d hd; exact strDs_one _ d (List.mem_of_mem_take (List.mem_of_mem_drop hd))) (by simp [strDs_length]; omega) rfl) rfl ?_
      refine awps_stp0 rfl rfl (by decide) (stp_move (.inr rfl) rfl) ?_
      refine awps_sub (sub_freeze (l := 61) rfl (by decide) (noL hL _) rfl rfl) ?_
      refine awps_nil ?_
      refine inQ_nil ?_
      refine thenQ_nil ?_
      refine awp_region ?_
      refine awps_stp0 rfl rfl (by decide) (stp_move (.inl rfl) rfl) ?_
      refine awps_stp0 rfl rfl (by decide) (stp_add rfl rfl rfl (by omega)) ?_
      refine awps_stp0 rfl rfl (by decide) (stp_move (.inr rfl) rfl) ?_
      refine awps_nil ?_
      refine thenQ_nil ?_
      refine ⟨?_, ?_, ?_⟩
      · skip
        omega
      · skip
        omega
      exact sub_re (SubT.cons (lk_eq rfl (by first | rfl | simp)) (SubT.cons (lk_eq rfl (by first | (rw [hins]; done) | (rw [hins2]; show AV.dat true 1 _ = AV.dat true 1 _; congr 1; simp [strDs, List.map_take, List.map_drop, List.take_of_length_le]; done))) (SubT.cons (lk_eq rfl (by first | rfl | simp)) (SubT.nil)))) (SubO.nil) rfl rfl (noL' (noL hL) _)
    have m19 := l19
    try simp only [↓str_beq_t, ↓str_beq_f, decide_eq_true_eq, decide_eq_false_iff_not, Bool.not_eq_true', Bool.not_eq_false', Int.not_lt, Int.not_le, beq_iff_eq, beq_eq_false_iff_ne, bne_iff_ne, bne_eq_false_iff_eq, ne_eq] at m19
    have hpos : posS (namesR a (b.take k)) u = i := posS_eq u _ i hpi.1 hpi.2 (fun s hs => by have := (List.getElem?_eq_some_iff.1 hs).1; omega)
    refine awp_drawG 13 mixed rfl rfl rfl rfl ?_
    refine MGo_c0 rfl (by decide) (.run rfl (stp_move (.inl rfl) rfl)) ?_
    refine MGo_c0 rfl (by decide) (.run rfl (stp_move (.inl rfl) rfl)) ?_
    first | refine MGo_c0 rfl (by decide) (.run rfl (stp_len_dat rfl sl_S_string rfl)) ?_ | refine MGo_c0 rfl (by decide) (.run rfl (stp_len_rowd rfl sl_S_string rfl rfl)) ?_ | refine MGo_c0 rfl (by decide) (.run rfl (stp_len_nil rfl sl_S_string rfl)) ?_
    refine MGo_c0 rfl (by decide) (.run rfl (stp_binI (r := .bool false) rfl rfl rfl (congrArg (fun b => some (Value.bool b)) l19))) ?_
    refine MGo_c0 rfl (by decide) (.run rfl (stp_move (.inl rfl) rfl)) ?_
    refine MGo_c0 rfl (by decide) (.skip rfl rfl rfl (by decide) (by decide)) ?_
    refine MGo_c0 rfl (by decide) (.skip rfl rfl rfl (by decide) (by decide)) ?_
    refine MGo_c0 rfl (by decide) (.skip rfl rfl rfl (by decide) (by decide)) ?_
    refine MGo_c0 rfl (by decide) (.skip rfl rfl rfl (by decide) (by decide)) ?_
    refine MGo_c0 rfl (by decide) (.skip rfl rfl rfl (by decide) (by decide)) ?_
    refine MGo_c0 rfl (by decide) (.skip rfl rfl rfl (by decide) (by decide)) ?_
    refine MGo_c0 rfl (by decide) (.skip rfl rfl rfl (by decide) (by decide)) ?_
    refine MGo_c0 rfl (by decide) (.skip rfl rfl rfl (by decide) (by decide)) ?_
    refine MGo_nil ⟨rfl, rfl, ?_⟩
    refine awps_gs rfl rfl rfl rfl (by decide) rfl (by decide) ?_
    refine awps_stp0 rfl rfl (by decide) (stp_pick rfl rfl rfl) ?_
    refine awps_nil ?_
    refine thenQ_nil ?_
    refine awp_condF rfl ?_
    refine awp_exit ?_
    refine thenQ_exit (thenQ_exit (inQ_hit ?_))
    refine thenQ_nil ?_
    refine awp_seq ?_
    refine awp_seq ?_
    rcases Bool.eq_false_or_eq_true (decide ((i : Int) < ((strDs (namesR a (b.take k))).length : Int))) with l36 | l36
    · have m36 := l36
      try simp only [↓str_beq_t, ↓str_beq_f, decide_eq_true_eq, decide_eq_false_iff_not, Bool.not_eq_true', Bool.not_eq_false', Int.not_lt, Int.not_le, beq_iff_eq, beq_eq_false_iff_ne, bne_iff_ne, bne_eq_false_iff_eq, ne_eq] at m36
      obtain ⟨v, hv⟩ := get_of_lt (l := namesR a (b.take k)) (k := i) (by omega)
      refine awp_drawG 13 mixed rfl rfl rfl rfl ?_
      refine MGo_c0 rfl (by decide) (.run rfl (stp_move (.inl rfl) rfl)) ?_
      refine MGo_c0 rfl (by decide) (.run rfl (stp_move (.inl rfl) rfl)) ?_
      first | refine MGo_c0 rfl (by decide) (.run rfl (stp_len_dat rfl sl_S_string rfl)) ?_ | refine MGo_c0 rfl (by decide) (.run rfl (stp_len_rowd rfl sl_S_string rfl rfl)) ?_ | refine MGo_c0 rfl (by decide) (.run rfl (stp_len_nil rfl sl_S_string rfl)) ?_
      refine MGo_c0 rfl (by decide) (.run rfl (stp_binI (r := .bool true) rfl rfl rfl (congrArg (fun b => some (Value.bool b)) l36))) ?_
      refine MGo_c0 rfl (by decide) (.run rfl (stp_move (.inl rfl) rfl)) ?_
      refine MGo_c0 rfl (by decide) (.want rfl rfl rfl (by decide) (stp_move (.inl rfl) rfl)) ?_
      refine MGo_c0 rfl (by decide) (.want rfl rfl rfl (by decide) (stp_move (.inl rfl) rfl)) ?_
      first | refine MGo_c0 rfl (by decide) (.want rfl rfl rfl (by decide) (stp_indexAddr rfl sl_S_string rfl rfl (by omega) (strDs_get hv))) ?_ | refine MGo_c0 rfl (by decide) (.want rfl rfl rfl (by decide) (stp_indexAddr_rowd rfl sl_S_string rfl rfl rfl (by omega) (strDs_get hv))) ?_ | refine MGo_c0 rfl (by decide) (.want rfl rfl rfl (by decide) (stp_indexAddr_row rfl sl_S_string rfl rfl rfl (by omega) (strDs_get hv) (by decide))) ?_
      first | refine MGo_c0 rfl (by decide) (.want rfl rfl rfl (by decide) (stp_load rfl tf_string rfl rfl rfl rfl rfl)) ?_ | refine MGo_c0 rfl (by decide) (.want rfl rfl rfl (by decide) (stp_load_elp1 rfl tf_string rfl)) ?_ | refine MGo_c0 rfl (by decide) (.want rfl rfl rfl (by decide) (stp_load_elpn rfl tf_string rfl rfl rfl)) ?_
      refine MGo_c0 rfl (by decide) (.want rfl rfl rfl (by decide) (stp_move (.inl rfl) rfl)) ?_
      refine MGo_c0 rfl (by decide) (.want rfl rfl rfl (by decide) (stp_move (.inl rfl) rfl)) ?_
      first | refine MGo_c0 rfl (by decide) (.want rfl rfl rfl (by decide) (stp_indexAddr rfl sl_S_string rfl rfl (by omega) (strDs_get hu))) ?_ | refine MGo_c0 rfl (by decide) (.want rfl rfl rfl (by decide) (stp_indexAddr_rowd rfl sl_S_string rfl rfl rfl (by omega) (strDs_get hu))) ?_ | refine MGo_c0 rfl (by decide) (.want rfl rfl rfl (by decide) (stp_indexAddr_row rfl sl_S_string rfl rfl rfl (by omega) (strDs_get hu) (by decide))) ?_
      first | refine MGo_c0 rfl (by decide) (.want rfl rfl rfl (by decide) (stp_load rfl tf_string rfl rfl rfl rfl rfl)) ?_ | refine MGo_c0 rfl (by decide) (.want rfl rfl rfl (by decide) (stp_load_elp1 rfl tf_string rfl)) ?_ | refine MGo_c0 rfl (by decide) (.want rfl rfl rfl (by decide) (stp_load_elpn rfl tf_string rfl rfl rfl)) ?_
      refine MGo_nil ⟨rfl, rfl, ?_⟩
      refine awps_g0 rfl rfl rfl (by decide) rfl (by decide) (stp_binS rfl rfl rfl rfl) ?_
      refine awps_stp0 rfl rfl (by decide) (stp_pick rfl rfl rfl) ?_
      refine awps_nil ?_
      refine thenQ_nil ?_
      refine awp_cond rfl (fun c2 => ?_) (fun c2 => ?_)
      · try simp only [↓str_beq_t, ↓str_beq_f, decide_eq_true_eq, decide_eq_false_iff_not, Bool.not_eq_true', Bool.not_eq_false', Int.not_lt, Int.not_le, beq_iff_eq, beq_eq_false_iff_ne, bne_iff_ne, bne_eq_false_iff_eq, ne_eq] at c2
        have hins : namesR a (b.take (k + 1)) = namesR a (b.take k) := by rw [take_snoc hu, namesR_snoc, insertS, hpos, if_pos (by rw [hv, c2])]
        refine awp_exit ?_
        refine thenQ_exit (inQ_hit ?_)
        refine thenQ_nil ?_
        refine awp_region ?_
        refine awps_stp0 rfl rfl (by decide) (stp_move (.inl rfl) rfl) ?_
        refine awps_stp0 rfl rfl (by decide) (stp_add rfl rfl rfl (by omega)) ?_
        refine awps_stp0 rfl rfl (by decide) (stp_move (.inr rfl) rfl) ?_
        refine awps_nil ?_
        refine thenQ_nil ?_
        refine ⟨?_, ?_, ?_⟩
        · skip
          omega
        · skip
          omega
        exact sub_re (SubT.cons (lk_eq rfl (by first | rfl | simp)) (SubT.cons (lk_eq rfl (by first | (rw [hins]; done) | (rw [hins2]; show AV.dat true 1 _ = AV.dat true 1 _; congr 1; simp [strDs, List.map_take, List.map_drop, List.take_of_length_le]; done))) (SubT.cons (lk_eq rfl (by first | rfl | simp)) (SubT.nil)))) (SubO.nil) rfl rfl (noL' (noL hL) _)
      try simp only [↓str_beq_t, ↓str_beq_f, decide_eq_true_eq, decide_eq_false_iff_not, Bool.not_eq_true', Bool.not_eq_false', Int.not_lt, Int.not_le, beq_iff_eq, beq_eq_false_iff_ne, bne_iff_ne, bne_eq_false_iff_eq, ne_eq] at c2
      have hno : ¬ (namesR a (b.take k))[i]? = some u := fun h => by rw [hv] at h; exact c2 (Option.some.inj h)
      refine awp_skip ?_
      refine thenQ_nil ?_
      have hins2 : namesR a (b.take (k + 1)) = (namesR a (b.take k)).take i ++ [u] ++ (namesR a (b.take k)).drop i := by rw [take_snoc hu, namesR_snoc, insertS, hpos, if_neg hno]
      refine awp_drawG 13 mixed rfl rfl rfl rfl ?_
      refine MGo_c0 rfl (by decide) (.run rfl (stp_move (.inl rfl) rfl)) ?_
      refine MGo_c0 rfl (by decide) (.run rfl (stp_move (.inl rfl) rfl)) ?_
      refine MGo_c0 rfl (by decide) (.run rfl (stp_slice_dat (i := 0) (j := (i : Int)) rfl sl_S_string rfl (fun y h => by cases h) (fun _ => rfl) (fun y h => by cases h; rfl) (fun h => by cases h) (by omega) (by omega) (by omega))) ?_
      refine MGo_u rfl rfl (by decide) (stpU_call (avs := [_]) true rfl en_almagestref0_CopyStrings rfl rfl (CopyStrings_ok ((namesR a (b.take k)).take i) _ (by simp [strDs_take]) (by simp; omega)) (fun _ => rfl) rfl) ?_
      refine MGo_c0 rfl (by decide) (.run rfl (stp_move (.inl rfl) rfl)) ?_
      refine MGo_c0 rfl (by decide) (.run rfl (stp_move (.inl rfl) rfl)) ?_
      first | refine MGo_c0 rfl (by decide) (.run rfl (stp_indexAddr rfl sl_S_string rfl rfl (by omega) (strDs_get hu))) ?_ | refine MGo_c0 rfl (by decide) (.run rfl (stp_indexAddr_rowd rfl sl_S_string rfl rfl rfl (by omega) (strDs_get hu))) ?_ | refine MGo_c0 rfl (by decide) (.run rfl (stp_indexAddr_row rfl sl_S_string rfl rfl rfl (by omega) (strDs_get hu) (by decide))) ?_
      first | refine MGo_c0 rfl (by decide) (.run rfl (stp_load rfl tf_string rfl rfl rfl rfl rfl)) ?_ | refine MGo_c0 rfl (by decide) (.run rfl (stp_load_elp1 rfl tf_string rfl)) ?_ | refine MGo_c0 rfl (by decide) (.run rfl (stp_load_elpn rfl tf_string rfl rfl rfl)) ?_
      refine MGo_c1 rfl (by decide) (.run rfl (stp_buildSlice 56 rfl sl_S_string zv_string rfl rfl (by decide) (by decide) (by decide) rfl rfl rfl)) ?_
      first | refine MGo_u rfl rfl (by decide) (stpU_append1 57 ta_S_string rfl rfl rfl rfl rfl rfl rfl rfl (noL hL _) (by rw [strDs_length, List.length_take]; omega) rfl) ?_ | refine MGo_u rfl rfl (by decide) (stpU_appendd 57 ta_S_string rfl rfl rfl rfl rfl (noL hL _) (by simp) (by rw [strDs_length, List.length_take]; omega) rfl) ?_ | refine MGo_u rfl rfl (by decide) (stpU_appendi 57 ta_S_string rfl rfl rfl rfl (rfl) rfl (noL hL _) (by simp) (by rw [strDs_length, List.length_take]; omega) rfl) ?_
      refine MGo_c0 rfl (by decide) (.run rfl (stp_move (.inl rfl) rfl)) ?_
      refine MGo_c0 rfl (by decide) (.run rfl (stp_move (.inl rfl) rfl)) ?_
      refine MGo_c0 rfl (by decide) (.run rfl (stp_slice_dat (i := (i : Int)) (j := ((strDs (namesR a (b.take k))).length : Int)) rfl sl_S_string rfl (fun y h => by cases h; rfl) (fun h => by cases h) (fun y h => by cases h) (fun _ => rfl) (by omega) (by omega) (by omega))) ?_
      refine MGo_nil ⟨rfl, rfl, ?_⟩
      first | refine awps_u rfl rfl (by decide) (stpU_append1 61 ta_S_string rfl rfl rfl rfl rfl rfl rfl rfl (noL hL _) (by simp [strDs_length]; omega) rfl) rfl ?_ | refine awps_u rfl rfl (by decide) (stpU_appendd 61 ta_S_string rfl rfl rfl rfl rfl (noL hL _) (by intro d hd; exact strDs_one _ d (List.mem_of_mem_take (List.mem_of_mem_drop hd))) (by simp [strDs_length]; omega) rfl) rfl ?_ | refine awps_u rfl rfl (by decide) (stpU_appendi 61 ta_S_string rfl rfl rfl rfl (rfl) rfl (noL hL _) (by intro d hd; exact strDs_one _ d (List.mem_of_mem_take (List.mem_of_mem_drop hd))) (by simp [strDs_length]; omega) rfl) rfl ?_
      refine awps_stp0 rfl rfl (by decide) (stp_move (.inr rfl) rfl) ?_
      refine awps_sub (sub_freeze (l := 61) rfl (by decide) (noL hL _) rfl rfl) ?_
      refine awps_nil ?_
      refine inQ_nil ?_
      refine thenQ_nil ?_
      refine awp_region ?_
      refine awps_stp0 rfl rfl (by decide) (stp_move (.inl rfl) rfl) ?_
      refine awps_stp0 rfl rfl (by decide) (stp_add rfl rfl rfl (by omega)) ?_
      refine awps_stp0 rfl rfl (by decide) (stp_move (.inr rfl) rfl) ?_
      refine awps_nil ?_
      refine thenQ_nil ?_
      refine ⟨?_, ?_, ?_⟩
      · skip
        omega
      · skip
        omega
      exact sub_re (SubT.cons (lk_eq rfl (by first | rfl | simp)) (SubT.cons (lk_eq rfl (by first | (rw [hins]; done) | (rw [hins2]; show AV.dat true 1 _ = AV.dat true 1 _; congr 1; simp [strDs, List.map_take, List.map_drop, List.take_of_length_le]; done))) (SubT.cons (lk_eq rfl (by first | rfl | simp)) (SubT.nil)))) (SubO.nil) rfl rfl (noL' (noL hL) _)
    have m36 := l36
    try simp only [↓str_beq_t, ↓str_beq_f, decide_eq_true_eq, decide_eq_false_iff_not, Bool.not_eq_true', Bool.not_eq_false', Int.not_lt, Int.not_le, beq_iff_eq, beq_eq_false_iff_ne, bne_iff_ne, bne_eq_false_iff_eq, ne_eq] at m36
    have hno : ¬ (namesR a (b.take k))[i]? = some u := fun h => by have := (List.getElem?_eq_some_iff.1 h).1; omega
    refine awp_drawG 13 mixed rfl rfl rfl rfl ?_
    refine MGo_c0 rfl (by decide) (.run rfl (stp_move (.inl rfl) rfl)) ?_
    refine MGo_c0 rfl (by decide) (.run rfl (stp_move (.inl rfl) rfl)) ?_
    first | refine MGo_c0 rfl (by decide) (.run rfl (stp_len_dat rfl sl_S_string rfl)) ?_ | refine MGo_c0 rfl (by decide) (.run rfl (stp_len_rowd rfl sl_S_string rfl rfl)) ?_ | refine MGo_c0 rfl (by decide) (.run rfl (stp_len_nil rfl sl_S_string rfl)) ?_
    refine MGo_c0 rfl (by decide) (.run rfl (stp_binI (r := .bool false) rfl rfl rfl (congrArg (fun b => some (Value.bool b)) l36))) ?_
    refine MGo_c0 rfl (by decide) (.run rfl (stp_move (.inl rfl) rfl)) ?_
    refine MGo_c0 rfl (by decide) (.skip rfl rfl rfl (by decide) (by decide)) ?_
    refine MGo_c0 rfl (by decide) (.skip rfl rfl rfl (by decide) (by decide)) ?_
    refine MGo_c0 rfl (by decide) (.skip rfl rfl rfl (by decide) (by decide)) ?_
    refine MGo_c0 rfl (by decide) (.skip rfl rfl rfl (by decide) (by decide)) ?_
    refine MGo_c0 rfl (by decide) (.skip rfl rfl rfl (by decide) (by decide)) ?_
    refine MGo_c0 rfl (by decide) (.skip rfl rfl rfl (by decide) (by decide)) ?_
    refine MGo_c0 rfl (by decide) (.skip rfl rfl rfl (by decide) (by decide)) ?_
    refine MGo_c0 rfl (by decide) (.skip rfl rfl rfl (by decide) (by decide)) ?_
    refine MGo_nil ⟨rfl, rfl, ?_⟩
    refine awps_gs rfl rfl rfl rfl (by decide) rfl (by decide) ?_
    refine awps_stp0 rfl rfl (by decide) (stp_pick rfl rfl rfl) ?_
    refine awps_nil ?_
    refine thenQ_nil ?_
    refine awp_condF rfl ?_
    refine awp_skip ?_
    refine thenQ_nil ?_
    have hins2 : namesR a (b.take (k + 1)) = (namesR a (b.take k)).take i ++ [u] ++ (namesR a (b.take k)).drop i := by rw [take_snoc hu, namesR_snoc, insertS, hpos, if_neg hno]
    refine awp_drawG 13 mixed rfl rfl rfl rfl ?_
    refine MGo_c0 rfl (by decide) (.run rfl (stp_move (.inl rfl) rfl)) ?_
    refine MGo_c0 rfl (by decide) (.run rfl (stp_move (.inl rfl) rfl)) ?_
    refine MGo_c0 rfl (by decide) (.run rfl (stp_slice_dat (i := 0) (j := (i : Int)) rfl sl_S_string rfl (fun y h => by cases h) (fun _ => rfl) (fun y h => by cases h; rfl) (fun h => by cases h) (by omega) (by omega) (by omega))) ?_
    refine MGo_u rfl rfl (by decide) (stpU_call (avs := [_]) true rfl en_almagestref0_CopyStrings rfl rfl (CopyStrings_ok ((namesR a (b.take k)).take i) _ (by simp [strDs_take]) (by simp; omega)) (fun _ => rfl) rfl) ?_
    refine MGo_c0 rfl (by decide) (.run rfl (stp_move (.inl rfl) rfl)) ?_
    refine MGo_c0 rfl (by decide) (.run rfl (stp_move (.inl rfl) rfl)) ?_
    first | refine MGo_c0 rfl (by decide) (.run rfl (stp_indexAddr rfl sl_S_string rfl rfl (by omega) (strDs_get hu))) ?_ | refine MGo_c0 rfl (by decide) (.run rfl (stp_indexAddr_rowd rfl sl_S_string rfl rfl rfl (by omega) (strDs_get hu))) ?_ | refine MGo_c0 rfl (by decide) (.run rfl (stp_indexAddr_row rfl sl_S_string rfl rfl rfl (by omega) (strDs_get hu) (by decide))) ?_
    first | refine MGo_c0 rfl (by decide) (.run rfl (stp_load rfl tf_string rfl rfl rfl rfl rfl)) ?_ | refine MGo_c0 rfl (by decide) (.run rfl (stp_load_elp1 rfl tf_string rfl)) ?_ | refine MGo_c0 rfl (by decide) (.run rfl (stp_load_elpn rfl tf_string rfl rfl rfl)) ?_
    refine MGo_c1 rfl (by decide) (.run rfl (stp_buildSlice 56 rfl sl_S_string zv_string rfl rfl (by decide) (by decide) (by decide) rfl rfl rfl)) ?_
    first | refine MGo_u rfl rfl (by decide) (stpU_append1 57 ta_S_string rfl rfl rfl rfl rfl rfl rfl rfl (noL hL _) (by rw [strDs_length, List.length_take]; omega) rfl) ?_ | refine MGo_u rfl rfl (by decide) (stpU_appendd 57 ta_S_string rfl rfl rfl rfl rfl (noL hL _) (by simp) (by rw [strDs_length, List.length_take]; omega) rfl) ?_ | refine MGo_u rfl rfl (by decide) (stpU_appendi 57 ta_S_string rfl rfl rfl rfl (rfl) rfl (noL hL _) (by simp) (by rw [strDs_length, List.length_take]; omega) rfl) ?_
    refine MGo_c0 rfl (by decide) (.run rfl (stp_move (.inl rfl) rfl)) ?_
    refine MGo_c0 rfl (by decide) (.run rfl (stp_move (.inl rfl) rfl)) ?_
    refine MGo_c0 rfl (by decide) (.run rfl (stp_slice_dat (i := (i : Int)) (j := ((strDs (namesR a (b.take k))).length : Int)) rfl sl_S_string rfl (fun y h => by cases h; rfl) (fun h => by cases h) (fun y h => by cases h) (fun _ => rfl) (by omega) (by omega) (by omega))) ?_
    refine MGo_nil ⟨rfl, rfl, ?_⟩
    first | refine awps_u rfl rfl (by decide) (stpU_append1 61 ta_S_string rfl rfl rfl rfl rfl rfl rfl rfl (noL hL _) (by simp [strDs_length]; omega) rfl) rfl ?_ | refine awps_u rfl rfl (by decide) (stpU_appendd 61 ta_S_string rfl rfl rfl rfl rfl (noL hL _) (by intro d hd; exact strDs_one _ d (List.mem_of_mem_take (List.mem_of_mem_drop hd))) (by simp [strDs_length]; omega) rfl) rfl ?_ | refine awps_u rfl rfl (by decide) (stpU_appendi 61 ta_S_string rfl rfl rfl rfl (rfl) rfl (noL hL _) (by intro d hd; exact strDs_one _ d (List.mem_of_mem_take (List.mem_of_mem_drop hd))) (by simp [strDs_length]; omega) rfl) rfl ?_
    refine awps_stp0 rfl rfl (by decide) (stp_move (.inr rfl) rfl) ?_
    refine awps_sub (sub_freeze (l := 61) rfl (by decide) (noL hL _) rfl rfl) ?_
    refine awps_nil ?_
    refine inQ_nil ?_
    refine thenQ_nil ?_
    refine awp_region ?_
    refine awps_stp0 rfl rfl (by decide) (stp_move (.inl rfl) rfl) ?_
    refine awps_stp0 rfl rfl (by decide) (stp_add rfl rfl rfl (by omega)) ?_
    refine awps_stp0 rfl rfl (by decide) (stp_move (.inr rfl) rfl) ?_
    refine awps_nil ?_
    refine thenQ_nil ?_
    refine ⟨?_, ?_, ?_⟩
    · skip
      omega
    · skip
      omega
    exact sub_re (SubT.cons (lk_eq rfl (by first | rfl | simp)) (SubT.cons (lk_eq rfl (by first | (rw [hins]; done) | (rw [hins2]; show AV.dat true 1 _ = AV.dat true 1 _; congr 1; simp [strDs, List.map_take, List.map_drop, List.take_of_length_le]; done))) (SubT.cons (lk_eq rfl (by first | rfl | simp)) (SubT.nil)))) (SubO.nil) rfl rfl (noL' (noL hL) _)
  try simp only [↓str_beq_t, ↓str_beq_f, decide_eq_true_eq, decide_eq_false_iff_not, Bool.not_eq_true', Bool.not_eq_false', Int.not_lt, Int.not_le, beq_iff_eq, beq_eq_false_iff_ne, bne_iff_ne, bne_eq_false_iff_eq, ne_eq] at c0
  refine awp_exit ?_
  refine thenQ_exit (thenQ_exit (inQ_hit ?_))
  refine thenQ_nil ?_
  refine awp_seq ?_
  refine awp_region ?_
  refine awps_stp0 rfl rfl (by decide) (stp_move (.inl rfl) rfl) ?_
  refine awps_stp0 rfl rfl (by decide) (stp_move (.inr rfl) rfl) ?_
  refine awps_nil ?_
  refine thenQ_nil ?_
  refine awp_ret ?_
  -- leaf 0F
  refine ret0 (noL hL) (.inl rfl) (resAs_tmp rfl (resAs_nil)) ?_ ?_
  · rfl
  exact ⟨by rw [List.take_of_length_le (by omega)]; rfl, rfl⟩
end Go.Proofs.Ytdecgkhdbfgldaa
