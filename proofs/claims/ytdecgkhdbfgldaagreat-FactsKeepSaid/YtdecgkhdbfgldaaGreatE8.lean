/- Part 8 of the proof: Ff, Fg, Fh, Fi, Fj. -/
import Derived.Test.YtdecgkhdbfgldaaGreatE7
set_option linter.unusedVariables false
set_option linter.unusedSimpArgs false
set_option maxRecDepth 8000
namespace Go.Proofs.YtdecgkhdbfgldaaGreat
open Go
theorem mayL_size (d : Nat) (ih : ∀ (t : Tm) (n : Int), 0 ≤ n → n ≤ 24 → ((mayS d t n).1 = true ↔ sizeS d t ≤ n) ∧ ((mayS d t n).1 = true → (mayS d t n).2 = n - sizeS d t)) : ∀ (l : List Tm) (k n : Int), 0 ≤ k → k ≤ n → n ≤ 24 → ((mayL (mayS d) l (n - k)).1 = true ↔ sizeL (sizeS d) k l ≤ n) ∧ ((mayL (mayS d) l (n - k)).1 = true → (mayL (mayS d) l (n - k)).2 = n - sizeL (sizeS d) k l)
  | [], k, n, h0, h1, h2 => by simp [mayL, sizeL]; omega
  | a :: l, k, n, h0, h1, h2 => by
    have h3 := ih a (n - k) (by omega) (by omega)
    have h4 := sizeS_ge d a
    simp only [mayL, sizeL]
    rw [if_pos (show k ≤ 24 by omega)]
    by_cases hb : (mayS d a (n - k)).1 = true
    · rw [if_pos hb, h3.2 hb, show n - k - sizeS d a = n - (k + sizeS d a) by omega]
      exact mayL_size d ih l (k + sizeS d a) n (by omega) (by have := h3.1.1 hb; omega) h2
    · rw [if_neg hb]
      have h5 : ¬ sizeS d a ≤ n - k := fun h => hb (h3.1.2 h)
      have h6 := sizeL_ge (sizeS d) (fun t => by have := sizeS_ge d t; omega) (k + sizeS d a) l
      simp; omega
theorem mayS_size : ∀ (d : Nat) (t : Tm) (n : Int), 0 ≤ n → n ≤ 24 → ((mayS d t n).1 = true ↔ sizeS d t ≤ n) ∧ ((mayS d t n).1 = true → (mayS d t n).2 = n - sizeS d t)
  | 0, t, n, h0, h1 => by simp [mayS, sizeS]; omega
  | d + 1, t, n, h0, h1 => by
    have hge := sizeS_ge (d + 1) t
    by_cases hn : n - 1 < 0
    · rw [mayS, if_pos hn]; simp; omega
    rw [mayS, if_neg hn]
    by_cases k1 : t.kind = 1
    · rw [if_pos k1, sizeS, if_pos k1]
      simp only [Bool.and_eq_true, decide_eq_true_eq]
      split
      · rename_i h; simp [h]; omega
      · rename_i h; refine ⟨⟨fun hh => absurd ⟨hh.1.1, hh.1.2, hh.2⟩ h, fun hh => by omega⟩, fun hh => absurd ⟨hh.1.1, hh.1.2, hh.2⟩ h⟩
    rw [if_neg k1, sizeS, if_neg k1]
    by_cases k2 : t.kind = 2
    · rw [if_pos k2, if_pos k2]
      simp only [Bool.and_eq_true, decide_eq_true_eq, numB]
      split
      · rename_i h; simp [h]; omega
      · rename_i h; refine ⟨⟨fun hh => absurd ⟨hh.1.2, hh.1.1, hh.2⟩ h, fun hh => by omega⟩, fun hh => absurd ⟨hh.1.2, hh.1.1, hh.2⟩ h⟩
    rw [if_neg k2, if_neg k2]
    by_cases k3 : t.kind = 3
    · rw [if_pos k3, if_pos k3]
      simp only [Bool.and_eq_true, decide_eq_true_eq]
      by_cases hc : (nameB t.name = true ∧ t.n = 0) ∧ t.args.length ≤ 4
      · rw [if_pos hc]
        by_cases hd : 0 < t.args.length ∧ d = 0
        · rw [if_pos (by right; right; right; exact hd)]
          obtain ⟨h1', rfl⟩ := hd
          cases ha : t.args with
          | nil => rw [ha] at h1'; simp at h1'
          | cons a l => simp [mayL, mayS]; omega
        · rw [if_neg (by
            rintro (h | h | h | h)
            · rw [hc.1.1] at h; cases h
            · exact h hc.1.2
            · omega
            · exact hd h)]
          exact mayL_size d (mayS_size d) t.args 1 n (by omega) (by omega) h1
      · rw [if_neg hc, if_pos (by
          by_cases e1 : nameB t.name = true
          · by_cases e2 : t.n = 0
            · right; right; left
              have : ¬ t.args.length ≤ 4 := fun h => hc ⟨⟨e1, e2⟩, h⟩
              omega
            · exact .inr (.inl e2)
          · exact .inl (by simpa using e1))]
        simp; omega
    · rw [if_neg k3, if_neg k3]; simp; omega
theorem mayT_size (t : Tm) : mayT t = decide (sizeS 5 t ≤ 24) := by
  have := (mayS_size 5 t 24 (by omega) (by omega)).1
  rw [mayT, Bool.eq_iff_iff, this]; simp
theorem rTerm_ok (t : Tm) (ht : t.wf) : PF 25 [tmA false t] (bv (mayT t)) := by
  refine AC_intro Tryz.func25 rfl Tryz.ntmps25 (Nat.le_of_ble_eq_true rfl) fun c hL hQ hDD => ?_; refine awp_seq ?_; refine awp_region ?_; refine awps_stp1 rfl rfl (by decide) (stp_box 1 rfl rfl rfl) rfl ?_; refine awps_stp0 rfl rfl (by decide) (stp_move (.inr rfl) rfl) ?_; refine awps_nil ?_; refine thenQ_nil ?_; refine awp_seq ?_; refine awp_region ?_; refine awps_stp0 rfl rfl (by decide) (stp_load_all rfl tf_api_Term rfl rfl rfl rfl) ?_
  refine awps_call (avs := [_, _]) true rfl rfl rfl (by decide) en_almagestref1_size rfl rfl (rsize_ok 5 (by omega) (by omega) 5 rfl t ht) rfl rfl ?_; refine awps_stp0 rfl rfl (by decide) (stp_binI rfl rfl rfl rfl) ?_; refine awps_stp0 rfl rfl (by decide) (stp_move (.inr rfl) rfl) ?_; refine awps_nil ?_; refine thenQ_nil ?_; refine awp_ret ?_
  -- leaf 
  refine ret0 (noL hL) (.inl rfl) (resAs_tmp rfl (resAs_nil)) ?_ ?_
  · rfl
  refine ⟨bool_w ?_, rfl⟩
  rw [mayT_size]
theorem strDs_get {l : List ByteArray} {i : Nat} {s : ByteArray} (h : l[i]? = some s) : (strDs l)[i]? = some [.imm (.string s)] := by simp [strDs, h]
theorem strDs_snoc (l : List ByteArray) (u : ByteArray) : strDs (l ++ [u]) = strDs l ++ [[.imm (.string u)]] := by simp [strDs]
theorem CopyStrings_ok (l : List ByteArray) (es : List (List D)) (hes : es = strDs l) (hl : l.length ≤ 1000000) : AC Tryz.prog 203 [.dat false 1 es] [] (fun r O => r = .row 3 ∧ O = [(3, .rowd 9 1 true (strDs l))]) := by
  subst hes
  have hlen := strDs_length l
  refine AC_intro Tryz.func203 rfl Tryz.ntmps203 (Nat.le_of_ble_eq_true rfl) fun c hL hQ hDD => ?_; refine awp_seq ?_; refine awp_region ?_; refine awps_stp0 rfl rfl (by decide) (stp_move (.inr rfl) rfl) ?_; refine awps_nil ?_; refine thenQ_nil ?_; refine awp_seq ?_; refine awp_region ?_; refine awps_stp0 rfl rfl (by decide) (stp_move (.inr rfl) rfl) ?_; refine awps_nil ?_; refine thenQ_nil ?_
  refine awp_seq ?_; refine awp_seq ?_; refine awp_region ?_; refine awps_stp0 rfl rfl (by decide) (stp_move (.inr rfl) rfl) ?_; refine awps_nil ?_; refine thenQ_nil ?_; refine awp_block ?_; refine awp_while (l.length) (fun k => k ≤ l.length) (fun k => ⟨[(0, .dat false 1 (strDs l)), (3, .row 3), (4, iv (k : Int))], [(3, .rowd 9 1 true (strDs (l.take k)))]⟩) (by omega) ?_ (fun k hk hp => ?_)
  · exact Sub.trans (sub_nil_row (t := 3) (l := 3) 9 1 true rfl rfl) (sub_re (SubT.cons (lk_eq rfl (by first | rfl | simp)) (SubT.cons (lk_eq rfl (by first | rfl | simp)) (SubT.cons (lk_eq rfl (by first | rfl | simp)) (SubT.nil)))) (SubO.cons (ok_eq rfl (by rfl)) (SubO.nil)) rfl rfl (noL' (noL hL) _))
  have hl2 := strDs_length (l.take k)
  have hl3 : (l.take k).length ≤ l.length := by simp; omega
  refine awp_seq ?_; refine awp_seq ?_; refine awp_region ?_; refine awps_stp0 rfl rfl (by decide) (stp_move (.inl rfl) rfl) ?_; refine awps_stp0 rfl rfl (by decide) (stp_move (.inl rfl) rfl) ?_; refine awps_stp0 rfl rfl (by decide) (stp_len_dat rfl sl_S_string rfl) ?_; refine awps_stp0 rfl rfl (by decide) (stp_binI rfl rfl rfl rfl) ?_; refine awps_nil ?_; refine thenQ_nil ?_; refine awp_cond rfl (fun c0 => ?_) (fun c0 => ?_)
  · try simp only [↓cqA, cqB] at c0
    obtain ⟨u, hu⟩ := get_of_lt (l := l) (k := k) (by omega)
    refine awp_skip ?_; refine thenQ_nil ?_; refine awp_seq ?_; refine awp_block ?_; refine awp_region ?_; refine awps_stp0 rfl rfl (by decide) (stp_move (.inl rfl) rfl) ?_; refine awps_stp0 rfl rfl (by decide) (stp_move (.inl rfl) rfl) ?_; refine awps_stp0 rfl rfl (by decide) (stp_move (.inl rfl) rfl) ?_; refine awps_stp0 rfl rfl (by decide) (stp_indexAddr rfl sl_S_string rfl rfl (by omega) (strDs_get hu)) ?_; refine awps_stp0 rfl rfl (by decide) (stp_load_elp1 rfl tf_string rfl) ?_
    refine awps_stp1 rfl rfl (by decide) (stp_buildSlice 16 rfl sl_S_string zv_string rfl rfl (by decide) (by decide) (by decide) rfl rfl rfl) rfl ?_; refine awps_u rfl rfl (by decide) (stpU_append1 17 ta_S_string rfl rfl rfl rfl rfl rfl rfl rfl (noL hL _) (by omega) rfl) rfl ?_
    refine awps_stp0 rfl rfl (by decide) (stp_move (.inr rfl) rfl) ?_; refine awps_nil ?_; refine inQ_nil ?_; refine thenQ_nil ?_; refine awp_region ?_; refine awps_stp0 rfl rfl (by decide) (stp_move (.inl rfl) rfl) ?_; refine awps_stp0 rfl rfl (by decide) (stp_add rfl rfl rfl (by omega)) ?_; refine awps_stp0 rfl rfl (by decide) (stp_move (.inr rfl) rfl) ?_; refine awps_nil ?_; refine thenQ_nil ?_; refine ⟨?_, ?_, ?_⟩
    · skip
      omega
    · skip
      omega
    exact Sub.trans (sub_rename 17 3 (noL hL _) (noL hL _)) (sub_re (SubT.cons (lk_eq rfl (by first | rfl | simp)) (SubT.cons (lk_eq rfl (by first | rfl | simp)) (SubT.cons (lk_eq rfl (by first | rfl | simp)) (SubT.nil)))) (SubO.cons (ok_eq rfl (by rw [take_snoc hu, strDs_snoc]; rfl)) (SubO.nil)) rfl rfl (noL' (noL hL) _))
  try simp only [↓cqA, cqB] at c0
  refine awp_exit ?_; refine thenQ_exit (thenQ_exit (inQ_hit ?_)); refine thenQ_nil ?_; refine awp_seq ?_; refine awp_region ?_; refine awps_stp0 rfl rfl (by decide) (stp_move (.inl rfl) rfl) ?_; refine awps_stp0 rfl rfl (by decide) (stp_move (.inr rfl) rfl) ?_; refine awps_nil ?_; refine thenQ_nil ?_; refine awp_ret ?_
  -- leaf 0F
  change retQ _ _ _ _ _ _ _
  refine retO (O' := [(3, _)]) (.inl rfl) (resAs_tmp rfl resAs_nil) (SubO.cons rfl SubO.nil) ?_ ?_ (noL' (noL hL) _) ?_
  · rfl
  · rfl
  exact ⟨rfl, by rw [List.take_of_length_le (by omega)]⟩
def ltS (a b : ByteArray) : Bool := Op.bytesLess a.toList b.toList
def posS (l : List ByteArray) (x : ByteArray) : Nat := (l.takeWhile (fun s => ltS s x)).length
theorem posS_eq (x : ByteArray) : ∀ (l : List ByteArray) (k : Nat), k ≤ l.length → (∀ j s, j < k → l[j]? = some s → ltS s x = true) → (∀ s, l[k]? = some s → ltS s x = false) → posS l x = k
  | [], k, h, _, _ => by simp at h; subst h; rfl
  | a :: l, 0, _, _, h2 => by
    have := h2 a (by simp)
    simp [posS, List.takeWhile_cons, this]
  | a :: l, k + 1, h, h1, h2 => by
    have h0 := h1 0 a (by omega) (by simp)
    have ih := posS_eq x l k (by simpa using h) (fun j s hj hs => h1 (j + 1) s (by omega) (by simpa using hs)) (fun s hs => h2 s (by simpa using hs))
    simp only [posS] at ih ⊢
    rw [List.takeWhile_cons, if_pos h0, List.length_cons, ih]
def insertS (l : List ByteArray) (x : ByteArray) : List ByteArray := if l[posS l x]? = some x then l else l.take (posS l x) ++ [x] ++ l.drop (posS l x)
def namesR (a b : List ByteArray) : List ByteArray := b.foldl insertS a
theorem namesR_snoc (a b : List ByteArray) (u : ByteArray) : namesR a (b ++ [u]) = insertS (namesR a b) u := by simp [namesR]
theorem insertS_len (l : List ByteArray) (x : ByteArray) : (insertS l x).length ≤ l.length + 1 := by
  unfold insertS
  split
  · omega
  · simp; omega
theorem namesR_len : ∀ (b a : List ByteArray), (namesR a b).length ≤ a.length + b.length
  | [], a => by simp [namesR]
  | x :: b, a => by
    have h1 := namesR_len b (insertS a x)
    have h2 := insertS_len a x
    simp only [namesR, List.foldl_cons, List.length_cons] at h1 ⊢; omega
theorem strDs_take (l : List ByteArray) (k : Nat) : (strDs l).take k = strDs (l.take k) := by simp [strDs, List.map_take]
theorem strDs_one (l : List ByteArray) : ∀ d ∈ strDs l, d.length = 1 := fun d hd => by simp only [strDs, List.mem_map] at hd; obtain ⟨x, _, rfl⟩ := hd; rfl
theorem rNames_ok (a b : List ByteArray) (ha : a.length + b.length ≤ 1000000) : PF 141 [.dat false 1 (strDs a), .dat false 1 (strDs b)] (.dat true 1 (strDs (namesR a b))) := by
  have hla := strDs_length a
  have hlb := strDs_length b
  refine AC_intro Tryz.func141 rfl Tryz.ntmps141 (Nat.le_of_ble_eq_true rfl) fun c hL hQ hDD => ?_; refine awp_seq ?_; refine awp_region ?_; refine awps_stp0 rfl rfl (by decide) (stp_move (.inr rfl) rfl) ?_; refine awps_nil ?_; refine thenQ_nil ?_; refine awp_seq ?_; refine awp_region ?_; refine awps_stp0 rfl rfl (by decide) (stp_move (.inl rfl) rfl) ?_
  refine awps_u rfl rfl (by decide) (stpU_call (avs := [_]) true rfl en_almagestref0_CopyStrings rfl rfl (CopyStrings_ok a _ rfl (by omega)) (fun _ => rfl) rfl) rfl ?_; refine awps_stp0 rfl rfl (by decide) (stp_move (.inr rfl) rfl) ?_; refine awps_nil ?_; refine thenQ_nil ?_; refine awp_seq ?_; refine awp_seq ?_; refine awp_sub (sub_freeze (l := 3) rfl (by decide) (noL hL _) rfl rfl) ?_
  refine awp_region ?_; refine awps_stp0 rfl rfl (by decide) (stp_move (.inr rfl) rfl) ?_; refine awps_nil ?_; refine thenQ_nil ?_; refine awp_block ?_; refine awp_while (b.length) (fun k => k ≤ b.length) (fun k => ⟨[(1, .dat false 1 (strDs b)), (5, .dat true 1 (strDs (namesR a (b.take k)))), (6, iv (k : Int))], []⟩) (by omega) ?_ (fun k hk hp => ?_)
  · exact sub_re (SubT.cons (lk_eq rfl (by first | rfl | simp)) (SubT.cons (lk_eq rfl (by first | rfl | simp)) (SubT.cons (lk_eq rfl (by first | rfl | simp)) (SubT.nil)))) (SubO.nil) rfl rfl (noL' (noL hL) _)
  have hl1 := namesR_len (b.take k) a
  have hl2 : (b.take k).length ≤ b.length := by simp; omega
  have hl3 := strDs_length (namesR a (b.take k))
  refine awp_seq ?_; refine awp_seq ?_; refine awp_region ?_; refine awps_stp0 rfl rfl (by decide) (stp_move (.inl rfl) rfl) ?_; refine awps_stp0 rfl rfl (by decide) (stp_move (.inl rfl) rfl) ?_; refine awps_stp0 rfl rfl (by decide) (stp_len_dat rfl sl_S_string rfl) ?_; refine awps_stp0 rfl rfl (by decide) (stp_binI rfl rfl rfl rfl) ?_; refine awps_nil ?_; refine thenQ_nil ?_; refine awp_cond rfl (fun c0 => ?_) (fun c0 => ?_)
  · try simp only [↓cqA, cqB] at c0
    obtain ⟨u, hu⟩ := get_of_lt (l := b) (k := k) (by omega)
    have hbk : (b.take (k + 1)).length ≤ b.length := by simp; omega
    refine awp_skip ?_; refine thenQ_nil ?_; refine awp_seq ?_; refine awp_block ?_; refine awp_seq ?_; refine awp_region ?_; refine awps_stp0 rfl rfl (by decide) (stp_move (.inr rfl) rfl) ?_; refine awps_nil ?_; refine thenQ_nil ?_; refine awp_seq ?_; refine awp_block ?_
    refine awp_while ((namesR a (b.take k)).length) (fun i => i ≤ (namesR a (b.take k)).length ∧ ∀ j s, j < i → (namesR a (b.take k))[j]? = some s → ltS s u = true) (fun i => ⟨[(1, .dat false 1 (strDs b)), (5, .dat true 1 (strDs (namesR a (b.take k)))), (6, iv (k : Int)), (7, iv (i : Int))], []⟩) (⟨by omega, fun j s hj => absurd hj (by omega)⟩) ?_ (fun i hi hpi => ?_)
    · exact sub_re (SubT.cons (lk_eq rfl (by first | rfl | simp)) (SubT.cons (lk_eq rfl (by first | rfl | simp)) (SubT.cons (lk_eq rfl (by first | rfl | simp)) (SubT.cons (lk_eq rfl (by first | rfl | simp)) (SubT.nil))))) (SubO.nil) rfl rfl (noL' (noL hL) _)
    refine awp_seq ?_; refine awp_seq ?_
    rcases Bool.eq_false_or_eq_true (decide ((i : Int) < ((strDs (namesR a (b.take k))).length : Int))) with l19 | l19
    · have m19 := l19
      try simp only [↓cqA, cqB] at m19
      obtain ⟨v, hv⟩ := get_of_lt (l := namesR a (b.take k)) (k := i) (by omega)
      refine awp_drawG 13 mixed rfl rfl rfl rfl ?_; refine MGo_c0 rfl (by decide) (.run rfl (stp_move (.inl rfl) rfl)) ?_; refine MGo_c0 rfl (by decide) (.run rfl (stp_move (.inl rfl) rfl)) ?_; refine MGo_c0 rfl (by decide) (.run rfl (stp_len_dat rfl sl_S_string rfl)) ?_
      refine MGo_c0 rfl (by decide) (.run rfl (stp_binI (r := .bool true) rfl rfl rfl (congrArg (fun b => some (Value.bool b)) l19))) ?_; refine MGo_c0 rfl (by decide) (.run rfl (stp_move (.inl rfl) rfl)) ?_; refine MGo_c0 rfl (by decide) (.want rfl rfl rfl (by decide) (stp_move (.inl rfl) rfl)) ?_; refine MGo_c0 rfl (by decide) (.want rfl rfl rfl (by decide) (stp_move (.inl rfl) rfl)) ?_; refine MGo_c0 rfl (by decide) (.want rfl rfl rfl (by decide) (stp_indexAddr rfl sl_S_string rfl rfl (by omega) (strDs_get hv))) ?_
      refine MGo_c0 rfl (by decide) (.want rfl rfl rfl (by decide) (stp_load_elp1 rfl tf_string rfl)) ?_; refine MGo_c0 rfl (by decide) (.want rfl rfl rfl (by decide) (stp_move (.inl rfl) rfl)) ?_; refine MGo_c0 rfl (by decide) (.want rfl rfl rfl (by decide) (stp_move (.inl rfl) rfl)) ?_; refine MGo_c0 rfl (by decide) (.want rfl rfl rfl (by decide) (stp_indexAddr rfl sl_S_string rfl rfl (by omega) (strDs_get hu))) ?_; refine MGo_c0 rfl (by decide) (.want rfl rfl rfl (by decide) (stp_load_elp1 rfl tf_string rfl)) ?_
      refine MGo_nil ⟨rfl, rfl, ?_⟩; refine awps_g0 rfl rfl rfl (by decide) rfl (by decide) (stp_binS rfl rfl rfl rfl) ?_; refine awps_stp0 rfl rfl (by decide) (stp_pick rfl rfl rfl) ?_; refine awps_nil ?_; refine thenQ_nil ?_; refine awp_cond rfl (fun c1 => ?_) (fun c1 => ?_)
      · try simp only [↓cqA, cqB] at c1
        refine awp_skip ?_; refine thenQ_nil ?_; refine awp_block ?_; refine awp_region ?_; refine awps_stp0 rfl rfl (by decide) (stp_move (.inl rfl) rfl) ?_; refine awps_stp0 rfl rfl (by decide) (stp_add rfl rfl rfl (by omega)) ?_; refine awps_stp0 rfl rfl (by decide) (stp_move (.inr rfl) rfl) ?_; refine awps_nil ?_; refine inQ_nil ?_; refine thenQ_nil ?_; refine ⟨?_, ?_, ?_⟩
        · skip
          omega
        · skip
          refine ⟨by omega, fun j s hj hs => ?_⟩
          by_cases hji : j < i
          · exact hpi.2 j s hji hs
          · rw [show j = i by omega, hv] at hs; cases hs; exact c1
        exact sub_re (SubT.cons (lk_eq rfl (by first | rfl | simp)) (SubT.cons (lk_eq rfl (by first | rfl | simp)) (SubT.cons (lk_eq rfl (by first | rfl | simp)) (SubT.cons (lk_eq rfl (by first | rfl | simp)) (SubT.nil))))) (SubO.nil) rfl rfl (noL' (noL hL) _)
      try simp only [↓cqA, cqB] at c1
      have hpos : posS (namesR a (b.take k)) u = i := posS_eq u _ i hpi.1 hpi.2 (fun s hs => by rw [hv] at hs; cases hs; exact c1)
      refine awp_exit ?_; refine thenQ_exit (thenQ_exit (inQ_hit ?_)); refine thenQ_nil ?_; refine awp_seq ?_; refine awp_seq ?_
      rcases Bool.eq_false_or_eq_true (decide ((i : Int) < ((strDs (namesR a (b.take k))).length : Int))) with l36 | l36
      · have m36 := l36
        try simp only [↓cqA, cqB] at m36
        obtain ⟨v, hv⟩ := get_of_lt (l := namesR a (b.take k)) (k := i) (by omega)
        refine awp_drawG 13 mixed rfl rfl rfl rfl ?_; refine MGo_c0 rfl (by decide) (.run rfl (stp_move (.inl rfl) rfl)) ?_; refine MGo_c0 rfl (by decide) (.run rfl (stp_move (.inl rfl) rfl)) ?_; refine MGo_c0 rfl (by decide) (.run rfl (stp_len_dat rfl sl_S_string rfl)) ?_
        refine MGo_c0 rfl (by decide) (.run rfl (stp_binI (r := .bool true) rfl rfl rfl (congrArg (fun b => some (Value.bool b)) l36))) ?_; refine MGo_c0 rfl (by decide) (.run rfl (stp_move (.inl rfl) rfl)) ?_; refine MGo_c0 rfl (by decide) (.want rfl rfl rfl (by decide) (stp_move (.inl rfl) rfl)) ?_; refine MGo_c0 rfl (by decide) (.want rfl rfl rfl (by decide) (stp_move (.inl rfl) rfl)) ?_; refine MGo_c0 rfl (by decide) (.want rfl rfl rfl (by decide) (stp_indexAddr rfl sl_S_string rfl rfl (by omega) (strDs_get hv))) ?_
        refine MGo_c0 rfl (by decide) (.want rfl rfl rfl (by decide) (stp_load_elp1 rfl tf_string rfl)) ?_; refine MGo_c0 rfl (by decide) (.want rfl rfl rfl (by decide) (stp_move (.inl rfl) rfl)) ?_; refine MGo_c0 rfl (by decide) (.want rfl rfl rfl (by decide) (stp_move (.inl rfl) rfl)) ?_; refine MGo_c0 rfl (by decide) (.want rfl rfl rfl (by decide) (stp_indexAddr rfl sl_S_string rfl rfl (by omega) (strDs_get hu))) ?_; refine MGo_c0 rfl (by decide) (.want rfl rfl rfl (by decide) (stp_load_elp1 rfl tf_string rfl)) ?_
        refine MGo_nil ⟨rfl, rfl, ?_⟩; refine awps_g0 rfl rfl rfl (by decide) rfl (by decide) (stp_binS rfl rfl rfl rfl) ?_; refine awps_stp0 rfl rfl (by decide) (stp_pick rfl rfl rfl) ?_; refine awps_nil ?_; refine thenQ_nil ?_; refine awp_cond rfl (fun c2 => ?_) (fun c2 => ?_)
        · try simp only [↓cqA, cqB] at c2
          have hins : namesR a (b.take (k + 1)) = namesR a (b.take k) := by rw [take_snoc hu, namesR_snoc, insertS, hpos, if_pos (by rw [hv, c2])]
          refine awp_exit ?_; refine thenQ_exit (inQ_hit ?_); refine thenQ_nil ?_; refine awp_region ?_; refine awps_stp0 rfl rfl (by decide) (stp_move (.inl rfl) rfl) ?_; refine awps_stp0 rfl rfl (by decide) (stp_add rfl rfl rfl (by omega)) ?_; refine awps_stp0 rfl rfl (by decide) (stp_move (.inr rfl) rfl) ?_; refine awps_nil ?_; refine thenQ_nil ?_; refine ⟨?_, ?_, ?_⟩
          · skip
            omega
          · skip
            omega
          exact sub_re (SubT.cons (lk_eq rfl (by first | rfl | simp)) (SubT.cons (lk_eq rfl (by first | (rw [hins]; done) | (rw [hins2]; show AV.dat true 1 _ = AV.dat true 1 _; congr 1; simp [strDs, List.map_take, List.map_drop, List.take_of_length_le]; done))) (SubT.cons (lk_eq rfl (by first | rfl | simp)) (SubT.nil)))) (SubO.nil) rfl rfl (noL' (noL hL) _)
        try simp only [↓cqA, cqB] at c2
        have hno : ¬ (namesR a (b.take k))[i]? = some u := fun h => by rw [hv] at h; exact c2 (Option.some.inj h)
        refine awp_skip ?_; refine thenQ_nil ?_
        have hins2 : namesR a (b.take (k + 1)) = (namesR a (b.take k)).take i ++ [u] ++ (namesR a (b.take k)).drop i := by rw [take_snoc hu, namesR_snoc, insertS, hpos, if_neg hno]
        refine awp_drawG 13 mixed rfl rfl rfl rfl ?_; refine MGo_c0 rfl (by decide) (.run rfl (stp_move (.inl rfl) rfl)) ?_; refine MGo_c0 rfl (by decide) (.run rfl (stp_move (.inl rfl) rfl)) ?_; refine MGo_c0 rfl (by decide) (.run rfl (stp_slice_dat (i := 0) (j := (i : Int)) rfl sl_S_string rfl (fun y h => by cases h) (fun _ => rfl) (fun y h => by cases h; rfl) (fun h => by cases h) (by omega) (by omega) (by omega))) ?_
        refine MGo_u rfl rfl (by decide) (stpU_call (avs := [_]) true rfl en_almagestref0_CopyStrings rfl rfl (CopyStrings_ok ((namesR a (b.take k)).take i) _ (by simp [strDs_take]) (by simp; omega)) (fun _ => rfl) rfl) ?_; refine MGo_c0 rfl (by decide) (.run rfl (stp_move (.inl rfl) rfl)) ?_; refine MGo_c0 rfl (by decide) (.run rfl (stp_move (.inl rfl) rfl)) ?_; refine MGo_c0 rfl (by decide) (.run rfl (stp_indexAddr rfl sl_S_string rfl rfl (by omega) (strDs_get hu))) ?_; refine MGo_c0 rfl (by decide) (.run rfl (stp_load_elp1 rfl tf_string rfl)) ?_
        refine MGo_c1 rfl (by decide) (.run rfl (stp_buildSlice 56 rfl sl_S_string zv_string rfl rfl (by decide) (by decide) (by decide) rfl rfl rfl)) ?_; refine MGo_u rfl rfl (by decide) (stpU_append1 57 ta_S_string rfl rfl rfl rfl rfl rfl rfl rfl (noL hL _) (by rw [strDs_length, List.length_take]; omega) rfl) ?_; refine MGo_c0 rfl (by decide) (.run rfl (stp_move (.inl rfl) rfl)) ?_; refine MGo_c0 rfl (by decide) (.run rfl (stp_move (.inl rfl) rfl)) ?_
        refine MGo_c0 rfl (by decide) (.run rfl (stp_slice_dat (i := (i : Int)) (j := ((strDs (namesR a (b.take k))).length : Int)) rfl sl_S_string rfl (fun y h => by cases h; rfl) (fun h => by cases h) (fun y h => by cases h) (fun _ => rfl) (by omega) (by omega) (by omega))) ?_; refine MGo_nil ⟨rfl, rfl, ?_⟩; refine awps_u rfl rfl (by decide) (stpU_appendd 61 ta_S_string rfl rfl rfl rfl rfl (noL hL _) (by intro d hd; exact strDs_one _ d (List.mem_of_mem_take (List.mem_of_mem_drop hd))) (by simp [strDs_length]; omega) rfl) rfl ?_
        refine awps_stp0 rfl rfl (by decide) (stp_move (.inr rfl) rfl) ?_; refine awps_sub (sub_freeze (l := 61) rfl (by decide) (noL hL _) rfl rfl) ?_; refine awps_nil ?_; refine inQ_nil ?_; refine thenQ_nil ?_; refine awp_region ?_; refine awps_stp0 rfl rfl (by decide) (stp_move (.inl rfl) rfl) ?_; refine awps_stp0 rfl rfl (by decide) (stp_add rfl rfl rfl (by omega)) ?_; refine awps_stp0 rfl rfl (by decide) (stp_move (.inr rfl) rfl) ?_; refine awps_nil ?_; refine thenQ_nil ?_; refine ⟨?_, ?_, ?_⟩
        · skip
          omega
        · skip
          omega
        exact sub_re (SubT.cons (lk_eq rfl (by first | rfl | simp)) (SubT.cons (lk_eq rfl (by first | (rw [hins]; done) | (rw [hins2]; show AV.dat true 1 _ = AV.dat true 1 _; congr 1; simp [strDs, List.map_take, List.map_drop, List.take_of_length_le]; done))) (SubT.cons (lk_eq rfl (by first | rfl | simp)) (SubT.nil)))) (SubO.nil) rfl rfl (noL' (noL hL) _)
      have m36 := l36
      try simp only [↓cqA, cqB] at m36
      have hno : ¬ (namesR a (b.take k))[i]? = some u := fun h => by have := (List.getElem?_eq_some_iff.1 h).1; omega
      refine awp_drawG 13 mixed rfl rfl rfl rfl ?_; refine MGo_c0 rfl (by decide) (.run rfl (stp_move (.inl rfl) rfl)) ?_; refine MGo_c0 rfl (by decide) (.run rfl (stp_move (.inl rfl) rfl)) ?_; refine MGo_c0 rfl (by decide) (.run rfl (stp_len_dat rfl sl_S_string rfl)) ?_
      refine MGo_c0 rfl (by decide) (.run rfl (stp_binI (r := .bool false) rfl rfl rfl (congrArg (fun b => some (Value.bool b)) l36))) ?_; refine MGo_c0 rfl (by decide) (.run rfl (stp_move (.inl rfl) rfl)) ?_; refine MGo_c0 rfl (by decide) (.skip rfl rfl rfl (by decide) (by decide)) ?_; refine MGo_c0 rfl (by decide) (.skip rfl rfl rfl (by decide) (by decide)) ?_
      refine MGo_c0 rfl (by decide) (.skip rfl rfl rfl (by decide) (by decide)) ?_; refine MGo_c0 rfl (by decide) (.skip rfl rfl rfl (by decide) (by decide)) ?_; refine MGo_c0 rfl (by decide) (.skip rfl rfl rfl (by decide) (by decide)) ?_; refine MGo_c0 rfl (by decide) (.skip rfl rfl rfl (by decide) (by decide)) ?_; refine MGo_c0 rfl (by decide) (.skip rfl rfl rfl (by decide) (by decide)) ?_
      refine MGo_c0 rfl (by decide) (.skip rfl rfl rfl (by decide) (by decide)) ?_; refine MGo_nil ⟨rfl, rfl, ?_⟩; refine awps_gs rfl rfl rfl rfl (by decide) rfl (by decide) ?_; refine awps_stp0 rfl rfl (by decide) (stp_pick rfl rfl rfl) ?_; refine awps_nil ?_; refine thenQ_nil ?_; refine awp_condF rfl ?_; refine awp_skip ?_; refine thenQ_nil ?_
      have hins2 : namesR a (b.take (k + 1)) = (namesR a (b.take k)).take i ++ [u] ++ (namesR a (b.take k)).drop i := by rw [take_snoc hu, namesR_snoc, insertS, hpos, if_neg hno]
      refine awp_drawG 13 mixed rfl rfl rfl rfl ?_; refine MGo_c0 rfl (by decide) (.run rfl (stp_move (.inl rfl) rfl)) ?_; refine MGo_c0 rfl (by decide) (.run rfl (stp_move (.inl rfl) rfl)) ?_; refine MGo_c0 rfl (by decide) (.run rfl (stp_slice_dat (i := 0) (j := (i : Int)) rfl sl_S_string rfl (fun y h => by cases h) (fun _ => rfl) (fun y h => by cases h; rfl) (fun h => by cases h) (by omega) (by omega) (by omega))) ?_
      refine MGo_u rfl rfl (by decide) (stpU_call (avs := [_]) true rfl en_almagestref0_CopyStrings rfl rfl (CopyStrings_ok ((namesR a (b.take k)).take i) _ (by simp [strDs_take]) (by simp; omega)) (fun _ => rfl) rfl) ?_; refine MGo_c0 rfl (by decide) (.run rfl (stp_move (.inl rfl) rfl)) ?_; refine MGo_c0 rfl (by decide) (.run rfl (stp_move (.inl rfl) rfl)) ?_; refine MGo_c0 rfl (by decide) (.run rfl (stp_indexAddr rfl sl_S_string rfl rfl (by omega) (strDs_get hu))) ?_; refine MGo_c0 rfl (by decide) (.run rfl (stp_load_elp1 rfl tf_string rfl)) ?_
      refine MGo_c1 rfl (by decide) (.run rfl (stp_buildSlice 56 rfl sl_S_string zv_string rfl rfl (by decide) (by decide) (by decide) rfl rfl rfl)) ?_; refine MGo_u rfl rfl (by decide) (stpU_append1 57 ta_S_string rfl rfl rfl rfl rfl rfl rfl rfl (noL hL _) (by rw [strDs_length, List.length_take]; omega) rfl) ?_; refine MGo_c0 rfl (by decide) (.run rfl (stp_move (.inl rfl) rfl)) ?_; refine MGo_c0 rfl (by decide) (.run rfl (stp_move (.inl rfl) rfl)) ?_
      refine MGo_c0 rfl (by decide) (.run rfl (stp_slice_dat (i := (i : Int)) (j := ((strDs (namesR a (b.take k))).length : Int)) rfl sl_S_string rfl (fun y h => by cases h; rfl) (fun h => by cases h) (fun y h => by cases h) (fun _ => rfl) (by omega) (by omega) (by omega))) ?_; refine MGo_nil ⟨rfl, rfl, ?_⟩; refine awps_u rfl rfl (by decide) (stpU_appendd 61 ta_S_string rfl rfl rfl rfl rfl (noL hL _) (by intro d hd; exact strDs_one _ d (List.mem_of_mem_take (List.mem_of_mem_drop hd))) (by simp [strDs_length]; omega) rfl) rfl ?_
      refine awps_stp0 rfl rfl (by decide) (stp_move (.inr rfl) rfl) ?_; refine awps_sub (sub_freeze (l := 61) rfl (by decide) (noL hL _) rfl rfl) ?_; refine awps_nil ?_; refine inQ_nil ?_; refine thenQ_nil ?_; refine awp_region ?_; refine awps_stp0 rfl rfl (by decide) (stp_move (.inl rfl) rfl) ?_; refine awps_stp0 rfl rfl (by decide) (stp_add rfl rfl rfl (by omega)) ?_; refine awps_stp0 rfl rfl (by decide) (stp_move (.inr rfl) rfl) ?_; refine awps_nil ?_; refine thenQ_nil ?_; refine ⟨?_, ?_, ?_⟩
      · skip
        omega
      · skip
        omega
      exact sub_re (SubT.cons (lk_eq rfl (by first | rfl | simp)) (SubT.cons (lk_eq rfl (by first | (rw [hins]; done) | (rw [hins2]; show AV.dat true 1 _ = AV.dat true 1 _; congr 1; simp [strDs, List.map_take, List.map_drop, List.take_of_length_le]; done))) (SubT.cons (lk_eq rfl (by first | rfl | simp)) (SubT.nil)))) (SubO.nil) rfl rfl (noL' (noL hL) _)
    have m19 := l19
    try simp only [↓cqA, cqB] at m19
    have hpos : posS (namesR a (b.take k)) u = i := posS_eq u _ i hpi.1 hpi.2 (fun s hs => by have := (List.getElem?_eq_some_iff.1 hs).1; omega)
    refine awp_drawG 13 mixed rfl rfl rfl rfl ?_; refine MGo_c0 rfl (by decide) (.run rfl (stp_move (.inl rfl) rfl)) ?_; refine MGo_c0 rfl (by decide) (.run rfl (stp_move (.inl rfl) rfl)) ?_; refine MGo_c0 rfl (by decide) (.run rfl (stp_len_dat rfl sl_S_string rfl)) ?_
    refine MGo_c0 rfl (by decide) (.run rfl (stp_binI (r := .bool false) rfl rfl rfl (congrArg (fun b => some (Value.bool b)) l19))) ?_; refine MGo_c0 rfl (by decide) (.run rfl (stp_move (.inl rfl) rfl)) ?_; refine MGo_c0 rfl (by decide) (.skip rfl rfl rfl (by decide) (by decide)) ?_; refine MGo_c0 rfl (by decide) (.skip rfl rfl rfl (by decide) (by decide)) ?_
    refine MGo_c0 rfl (by decide) (.skip rfl rfl rfl (by decide) (by decide)) ?_; refine MGo_c0 rfl (by decide) (.skip rfl rfl rfl (by decide) (by decide)) ?_; refine MGo_c0 rfl (by decide) (.skip rfl rfl rfl (by decide) (by decide)) ?_; refine MGo_c0 rfl (by decide) (.skip rfl rfl rfl (by decide) (by decide)) ?_; refine MGo_c0 rfl (by decide) (.skip rfl rfl rfl (by decide) (by decide)) ?_
    refine MGo_c0 rfl (by decide) (.skip rfl rfl rfl (by decide) (by decide)) ?_; refine MGo_nil ⟨rfl, rfl, ?_⟩; refine awps_gs rfl rfl rfl rfl (by decide) rfl (by decide) ?_; refine awps_stp0 rfl rfl (by decide) (stp_pick rfl rfl rfl) ?_; refine awps_nil ?_; refine thenQ_nil ?_; refine awp_condF rfl ?_; refine awp_exit ?_; refine thenQ_exit (thenQ_exit (inQ_hit ?_)); refine thenQ_nil ?_; refine awp_seq ?_; refine awp_seq ?_
    rcases Bool.eq_false_or_eq_true (decide ((i : Int) < ((strDs (namesR a (b.take k))).length : Int))) with l36 | l36
    · have m36 := l36
      try simp only [↓cqA, cqB] at m36
      obtain ⟨v, hv⟩ := get_of_lt (l := namesR a (b.take k)) (k := i) (by omega)
      refine awp_drawG 13 mixed rfl rfl rfl rfl ?_; refine MGo_c0 rfl (by decide) (.run rfl (stp_move (.inl rfl) rfl)) ?_; refine MGo_c0 rfl (by decide) (.run rfl (stp_move (.inl rfl) rfl)) ?_; refine MGo_c0 rfl (by decide) (.run rfl (stp_len_dat rfl sl_S_string rfl)) ?_
      refine MGo_c0 rfl (by decide) (.run rfl (stp_binI (r := .bool true) rfl rfl rfl (congrArg (fun b => some (Value.bool b)) l36))) ?_; refine MGo_c0 rfl (by decide) (.run rfl (stp_move (.inl rfl) rfl)) ?_; refine MGo_c0 rfl (by decide) (.want rfl rfl rfl (by decide) (stp_move (.inl rfl) rfl)) ?_; refine MGo_c0 rfl (by decide) (.want rfl rfl rfl (by decide) (stp_move (.inl rfl) rfl)) ?_; refine MGo_c0 rfl (by decide) (.want rfl rfl rfl (by decide) (stp_indexAddr rfl sl_S_string rfl rfl (by omega) (strDs_get hv))) ?_
      refine MGo_c0 rfl (by decide) (.want rfl rfl rfl (by decide) (stp_load_elp1 rfl tf_string rfl)) ?_; refine MGo_c0 rfl (by decide) (.want rfl rfl rfl (by decide) (stp_move (.inl rfl) rfl)) ?_; refine MGo_c0 rfl (by decide) (.want rfl rfl rfl (by decide) (stp_move (.inl rfl) rfl)) ?_; refine MGo_c0 rfl (by decide) (.want rfl rfl rfl (by decide) (stp_indexAddr rfl sl_S_string rfl rfl (by omega) (strDs_get hu))) ?_; refine MGo_c0 rfl (by decide) (.want rfl rfl rfl (by decide) (stp_load_elp1 rfl tf_string rfl)) ?_
      refine MGo_nil ⟨rfl, rfl, ?_⟩; refine awps_g0 rfl rfl rfl (by decide) rfl (by decide) (stp_binS rfl rfl rfl rfl) ?_; refine awps_stp0 rfl rfl (by decide) (stp_pick rfl rfl rfl) ?_; refine awps_nil ?_; refine thenQ_nil ?_; refine awp_cond rfl (fun c2 => ?_) (fun c2 => ?_)
      · try simp only [↓cqA, cqB] at c2
        have hins : namesR a (b.take (k + 1)) = namesR a (b.take k) := by rw [take_snoc hu, namesR_snoc, insertS, hpos, if_pos (by rw [hv, c2])]
        refine awp_exit ?_; refine thenQ_exit (inQ_hit ?_); refine thenQ_nil ?_; refine awp_region ?_; refine awps_stp0 rfl rfl (by decide) (stp_move (.inl rfl) rfl) ?_; refine awps_stp0 rfl rfl (by decide) (stp_add rfl rfl rfl (by omega)) ?_; refine awps_stp0 rfl rfl (by decide) (stp_move (.inr rfl) rfl) ?_; refine awps_nil ?_; refine thenQ_nil ?_; refine ⟨?_, ?_, ?_⟩
        · skip
          omega
        · skip
          omega
        exact sub_re (SubT.cons (lk_eq rfl (by first | rfl | simp)) (SubT.cons (lk_eq rfl (by first | (rw [hins]; done) | (rw [hins2]; show AV.dat true 1 _ = AV.dat true 1 _; congr 1; simp [strDs, List.map_take, List.map_drop, List.take_of_length_le]; done))) (SubT.cons (lk_eq rfl (by first | rfl | simp)) (SubT.nil)))) (SubO.nil) rfl rfl (noL' (noL hL) _)
      try simp only [↓cqA, cqB] at c2
      have hno : ¬ (namesR a (b.take k))[i]? = some u := fun h => by rw [hv] at h; exact c2 (Option.some.inj h)
      refine awp_skip ?_; refine thenQ_nil ?_
      have hins2 : namesR a (b.take (k + 1)) = (namesR a (b.take k)).take i ++ [u] ++ (namesR a (b.take k)).drop i := by rw [take_snoc hu, namesR_snoc, insertS, hpos, if_neg hno]
      refine awp_drawG 13 mixed rfl rfl rfl rfl ?_; refine MGo_c0 rfl (by decide) (.run rfl (stp_move (.inl rfl) rfl)) ?_; refine MGo_c0 rfl (by decide) (.run rfl (stp_move (.inl rfl) rfl)) ?_; refine MGo_c0 rfl (by decide) (.run rfl (stp_slice_dat (i := 0) (j := (i : Int)) rfl sl_S_string rfl (fun y h => by cases h) (fun _ => rfl) (fun y h => by cases h; rfl) (fun h => by cases h) (by omega) (by omega) (by omega))) ?_
      refine MGo_u rfl rfl (by decide) (stpU_call (avs := [_]) true rfl en_almagestref0_CopyStrings rfl rfl (CopyStrings_ok ((namesR a (b.take k)).take i) _ (by simp [strDs_take]) (by simp; omega)) (fun _ => rfl) rfl) ?_; refine MGo_c0 rfl (by decide) (.run rfl (stp_move (.inl rfl) rfl)) ?_; refine MGo_c0 rfl (by decide) (.run rfl (stp_move (.inl rfl) rfl)) ?_; refine MGo_c0 rfl (by decide) (.run rfl (stp_indexAddr rfl sl_S_string rfl rfl (by omega) (strDs_get hu))) ?_; refine MGo_c0 rfl (by decide) (.run rfl (stp_load_elp1 rfl tf_string rfl)) ?_
      refine MGo_c1 rfl (by decide) (.run rfl (stp_buildSlice 56 rfl sl_S_string zv_string rfl rfl (by decide) (by decide) (by decide) rfl rfl rfl)) ?_; refine MGo_u rfl rfl (by decide) (stpU_append1 57 ta_S_string rfl rfl rfl rfl rfl rfl rfl rfl (noL hL _) (by rw [strDs_length, List.length_take]; omega) rfl) ?_; refine MGo_c0 rfl (by decide) (.run rfl (stp_move (.inl rfl) rfl)) ?_; refine MGo_c0 rfl (by decide) (.run rfl (stp_move (.inl rfl) rfl)) ?_
      refine MGo_c0 rfl (by decide) (.run rfl (stp_slice_dat (i := (i : Int)) (j := ((strDs (namesR a (b.take k))).length : Int)) rfl sl_S_string rfl (fun y h => by cases h; rfl) (fun h => by cases h) (fun y h => by cases h) (fun _ => rfl) (by omega) (by omega) (by omega))) ?_; refine MGo_nil ⟨rfl, rfl, ?_⟩; refine awps_u rfl rfl (by decide) (stpU_appendd 61 ta_S_string rfl rfl rfl rfl rfl (noL hL _) (by intro d hd; exact strDs_one _ d (List.mem_of_mem_take (List.mem_of_mem_drop hd))) (by simp [strDs_length]; omega) rfl) rfl ?_
      refine awps_stp0 rfl rfl (by decide) (stp_move (.inr rfl) rfl) ?_; refine awps_sub (sub_freeze (l := 61) rfl (by decide) (noL hL _) rfl rfl) ?_; refine awps_nil ?_; refine inQ_nil ?_; refine thenQ_nil ?_; refine awp_region ?_; refine awps_stp0 rfl rfl (by decide) (stp_move (.inl rfl) rfl) ?_; refine awps_stp0 rfl rfl (by decide) (stp_add rfl rfl rfl (by omega)) ?_; refine awps_stp0 rfl rfl (by decide) (stp_move (.inr rfl) rfl) ?_; refine awps_nil ?_; refine thenQ_nil ?_; refine ⟨?_, ?_, ?_⟩
      · skip
        omega
      · skip
        omega
      exact sub_re (SubT.cons (lk_eq rfl (by first | rfl | simp)) (SubT.cons (lk_eq rfl (by first | (rw [hins]; done) | (rw [hins2]; show AV.dat true 1 _ = AV.dat true 1 _; congr 1; simp [strDs, List.map_take, List.map_drop, List.take_of_length_le]; done))) (SubT.cons (lk_eq rfl (by first | rfl | simp)) (SubT.nil)))) (SubO.nil) rfl rfl (noL' (noL hL) _)
    have m36 := l36
    try simp only [↓cqA, cqB] at m36
    have hno : ¬ (namesR a (b.take k))[i]? = some u := fun h => by have := (List.getElem?_eq_some_iff.1 h).1; omega
    refine awp_drawG 13 mixed rfl rfl rfl rfl ?_; refine MGo_c0 rfl (by decide) (.run rfl (stp_move (.inl rfl) rfl)) ?_; refine MGo_c0 rfl (by decide) (.run rfl (stp_move (.inl rfl) rfl)) ?_; refine MGo_c0 rfl (by decide) (.run rfl (stp_len_dat rfl sl_S_string rfl)) ?_
    refine MGo_c0 rfl (by decide) (.run rfl (stp_binI (r := .bool false) rfl rfl rfl (congrArg (fun b => some (Value.bool b)) l36))) ?_; refine MGo_c0 rfl (by decide) (.run rfl (stp_move (.inl rfl) rfl)) ?_; refine MGo_c0 rfl (by decide) (.skip rfl rfl rfl (by decide) (by decide)) ?_; refine MGo_c0 rfl (by decide) (.skip rfl rfl rfl (by decide) (by decide)) ?_
    refine MGo_c0 rfl (by decide) (.skip rfl rfl rfl (by decide) (by decide)) ?_; refine MGo_c0 rfl (by decide) (.skip rfl rfl rfl (by decide) (by decide)) ?_; refine MGo_c0 rfl (by decide) (.skip rfl rfl rfl (by decide) (by decide)) ?_; refine MGo_c0 rfl (by decide) (.skip rfl rfl rfl (by decide) (by decide)) ?_; refine MGo_c0 rfl (by decide) (.skip rfl rfl rfl (by decide) (by decide)) ?_
    refine MGo_c0 rfl (by decide) (.skip rfl rfl rfl (by decide) (by decide)) ?_; refine MGo_nil ⟨rfl, rfl, ?_⟩; refine awps_gs rfl rfl rfl rfl (by decide) rfl (by decide) ?_; refine awps_stp0 rfl rfl (by decide) (stp_pick rfl rfl rfl) ?_; refine awps_nil ?_; refine thenQ_nil ?_; refine awp_condF rfl ?_; refine awp_skip ?_; refine thenQ_nil ?_
    have hins2 : namesR a (b.take (k + 1)) = (namesR a (b.take k)).take i ++ [u] ++ (namesR a (b.take k)).drop i := by rw [take_snoc hu, namesR_snoc, insertS, hpos, if_neg hno]
    refine awp_drawG 13 mixed rfl rfl rfl rfl ?_; refine MGo_c0 rfl (by decide) (.run rfl (stp_move (.inl rfl) rfl)) ?_; refine MGo_c0 rfl (by decide) (.run rfl (stp_move (.inl rfl) rfl)) ?_; refine MGo_c0 rfl (by decide) (.run rfl (stp_slice_dat (i := 0) (j := (i : Int)) rfl sl_S_string rfl (fun y h => by cases h) (fun _ => rfl) (fun y h => by cases h; rfl) (fun h => by cases h) (by omega) (by omega) (by omega))) ?_
    refine MGo_u rfl rfl (by decide) (stpU_call (avs := [_]) true rfl en_almagestref0_CopyStrings rfl rfl (CopyStrings_ok ((namesR a (b.take k)).take i) _ (by simp [strDs_take]) (by simp; omega)) (fun _ => rfl) rfl) ?_; refine MGo_c0 rfl (by decide) (.run rfl (stp_move (.inl rfl) rfl)) ?_; refine MGo_c0 rfl (by decide) (.run rfl (stp_move (.inl rfl) rfl)) ?_; refine MGo_c0 rfl (by decide) (.run rfl (stp_indexAddr rfl sl_S_string rfl rfl (by omega) (strDs_get hu))) ?_; refine MGo_c0 rfl (by decide) (.run rfl (stp_load_elp1 rfl tf_string rfl)) ?_
    refine MGo_c1 rfl (by decide) (.run rfl (stp_buildSlice 56 rfl sl_S_string zv_string rfl rfl (by decide) (by decide) (by decide) rfl rfl rfl)) ?_; refine MGo_u rfl rfl (by decide) (stpU_append1 57 ta_S_string rfl rfl rfl rfl rfl rfl rfl rfl (noL hL _) (by rw [strDs_length, List.length_take]; omega) rfl) ?_; refine MGo_c0 rfl (by decide) (.run rfl (stp_move (.inl rfl) rfl)) ?_; refine MGo_c0 rfl (by decide) (.run rfl (stp_move (.inl rfl) rfl)) ?_
    refine MGo_c0 rfl (by decide) (.run rfl (stp_slice_dat (i := (i : Int)) (j := ((strDs (namesR a (b.take k))).length : Int)) rfl sl_S_string rfl (fun y h => by cases h; rfl) (fun h => by cases h) (fun y h => by cases h) (fun _ => rfl) (by omega) (by omega) (by omega))) ?_; refine MGo_nil ⟨rfl, rfl, ?_⟩; refine awps_u rfl rfl (by decide) (stpU_appendd 61 ta_S_string rfl rfl rfl rfl rfl (noL hL _) (by intro d hd; exact strDs_one _ d (List.mem_of_mem_take (List.mem_of_mem_drop hd))) (by simp [strDs_length]; omega) rfl) rfl ?_
    refine awps_stp0 rfl rfl (by decide) (stp_move (.inr rfl) rfl) ?_; refine awps_sub (sub_freeze (l := 61) rfl (by decide) (noL hL _) rfl rfl) ?_; refine awps_nil ?_; refine inQ_nil ?_; refine thenQ_nil ?_; refine awp_region ?_; refine awps_stp0 rfl rfl (by decide) (stp_move (.inl rfl) rfl) ?_; refine awps_stp0 rfl rfl (by decide) (stp_add rfl rfl rfl (by omega)) ?_; refine awps_stp0 rfl rfl (by decide) (stp_move (.inr rfl) rfl) ?_; refine awps_nil ?_; refine thenQ_nil ?_; refine ⟨?_, ?_, ?_⟩
    · skip
      omega
    · skip
      omega
    exact sub_re (SubT.cons (lk_eq rfl (by first | rfl | simp)) (SubT.cons (lk_eq rfl (by first | (rw [hins]; done) | (rw [hins2]; show AV.dat true 1 _ = AV.dat true 1 _; congr 1; simp [strDs, List.map_take, List.map_drop, List.take_of_length_le]; done))) (SubT.cons (lk_eq rfl (by first | rfl | simp)) (SubT.nil)))) (SubO.nil) rfl rfl (noL' (noL hL) _)
  try simp only [↓cqA, cqB] at c0
  refine awp_exit ?_; refine thenQ_exit (thenQ_exit (inQ_hit ?_)); refine thenQ_nil ?_; refine awp_seq ?_; refine awp_region ?_; refine awps_stp0 rfl rfl (by decide) (stp_move (.inl rfl) rfl) ?_; refine awps_stp0 rfl rfl (by decide) (stp_move (.inr rfl) rfl) ?_; refine awps_nil ?_; refine thenQ_nil ?_; refine awp_ret ?_
  -- leaf 0F
  refine ret0 (noL hL) (.inl rfl) (resAs_tmp rfl (resAs_nil)) ?_ ?_
  · rfl
  exact ⟨by rw [List.take_of_length_le (by omega)]; rfl, rfl⟩
end Go.Proofs.YtdecgkhdbfgldaaGreat

set_option linter.unusedVariables false
set_option linter.unusedSimpArgs false
set_option maxRecDepth 8000
namespace Go.Proofs.YtdecgkhdbfgldaaGreat
open Go
def varsR : Nat → Tm → List ByteArray
  | 0, _ => []
  | d + 1, t => if t.kind = 1 then [t.name] else t.args.foldl (fun acc u => namesR acc (varsR d u)) []
theorem varsL_len (d : Nat) (ih : ∀ t, (varsR d t).length ≤ nodes d t) : ∀ (l : List Tm) (acc : List ByteArray), (l.foldl (fun acc u => namesR acc (varsR d u)) acc).length ≤ acc.length + (l.map (nodes d)).sum
  | [], acc => by simp
  | a :: l, acc => by
    have h1 := varsL_len d ih l (namesR acc (varsR d a))
    have h2 := namesR_len (varsR d a) acc
    have h3 := ih a
    simp only [List.foldl_cons, List.map_cons, List.sum_cons]; omega
theorem varsR_len : ∀ (d : Nat) (t : Tm), (varsR d t).length ≤ nodes d t
  | 0, t => by simp [varsR, nodes]
  | d + 1, t => by
    have := varsL_len d (varsR_len d) t.args []
    simp only [varsR, nodes]
    split
    · simp
    · simp only [List.length_nil] at this; omega
theorem rVars_ok : ∀ (d : Nat) (t : Tm), dle d t → t.wf → nodes d t ≤ 1000000 → PF 83 [tmA false t] (.dat true 1 (strDs (varsR d t)))
  | 0, t, h, _, _ => h.elim
  | d + 1, t, h, ht, hn => by
    have hlen := tmDs_length t.args
    have hal := ht.2.2.2.1
    simp only [nodes] at hn
    refine AC_intro Tryz.func83 rfl Tryz.ntmps83 (Nat.le_of_ble_eq_true rfl) fun c hL hQ hDD => ?_; refine awp_seq ?_; refine awp_region ?_; refine awps_stp1 rfl rfl (by decide) (stp_box 1 rfl rfl rfl) rfl ?_; refine awps_stp0 rfl rfl (by decide) (stp_move (.inr rfl) rfl) ?_; refine awps_nil ?_; refine thenQ_nil ?_; refine awp_seq ?_; refine awp_seq ?_; refine awp_region ?_; refine awps_stp0 rfl rfl (by decide) (stp_fieldAddr rfl fo_api_Term_0 rfl) ?_; refine awps_stp0 rfl rfl (by decide) (stp_load rfl tf_int rfl rfl rfl rfl rfl) ?_
    refine awps_stp0 rfl rfl (by decide) (stp_binI rfl rfl rfl rfl) ?_; refine awps_nil ?_; refine thenQ_nil ?_; refine awp_cond rfl (fun c0 => ?_) (fun c0 => ?_)
    · try simp only [↓cqA, cqB] at c0
      refine awp_seq ?_; refine awp_region ?_; refine awps_stp0 rfl rfl (by decide) (stp_fieldAddr rfl fo_api_Term_1 rfl) ?_; refine awps_stp0 rfl rfl (by decide) (stp_load rfl tf_string rfl rfl rfl rfl rfl) ?_; refine awps_stp1 rfl rfl (by decide) (stp_buildSlice 10 rfl sl_S_string zv_string rfl rfl (by decide) (by decide) (by decide) rfl rfl rfl) rfl ?_; refine awps_stp0 rfl rfl (by decide) (stp_move (.inr rfl) rfl) ?_; refine awps_rowd 10 true 1 rfl rfl rfl rfl ?_; refine awps_sub (sub_freeze (l := 10) rfl (by decide) (noL hL _) rfl rfl) ?_; refine awps_nil ?_; refine thenQ_nil ?_
      refine awp_ret ?_; refine thenQ_ret (?_)
      -- leaf 0T
      refine ret0 (noL hL) (.inl rfl) (resAs_tmp rfl (resAs_nil)) ?_ ?_
      · rfl
      exact ⟨by rw [varsR, if_pos c0]; rfl, rfl⟩
    try simp only [↓cqA, cqB] at c0
    refine awp_skip ?_; refine thenQ_nil ?_; refine awp_seq ?_; refine awp_region ?_; refine awps_stp0 rfl rfl (by decide) (stp_move (.inr rfl) rfl) ?_; refine awps_nil ?_; refine thenQ_nil ?_; refine awp_seq ?_; refine awp_seq ?_; refine awp_region ?_; refine awps_stp0 rfl rfl (by decide) (stp_move (.inr rfl) rfl) ?_; refine awps_nil ?_; refine thenQ_nil ?_; refine awp_block ?_
    refine awp_while (t.args.length) (fun k => k ≤ t.args.length) (fun k => ⟨[(1, .ptr 1 0), (3, .dat true 1 (strDs ((t.args.take k).foldl (fun acc u => namesR acc (varsR d u)) []))), (4, iv (k : Int))], [(1, .box (lift false (tmD t)))]⟩) (by omega) ?_ (fun k hk hp => ?_)
    · exact Sub.trans (sub_nil_dat (t := 3) 1 true rfl) (sub_re (SubT.cons (lk_eq rfl (by first | rfl | simp)) (SubT.cons (lk_eq rfl (by first | rfl | simp)) (SubT.cons (lk_eq rfl (by first | rfl | simp)) (SubT.nil)))) (SubO.cons (ok_eq rfl (by rfl)) (SubO.nil)) rfl rfl (noL' (noL hL) _))
    refine awp_seq ?_; refine awp_seq ?_; refine awp_region ?_; refine awps_stp0 rfl rfl (by decide) (stp_move (.inl rfl) rfl) ?_; refine awps_stp0 rfl rfl (by decide) (stp_fieldAddr rfl fo_api_Term_3 rfl) ?_; refine awps_stp0 rfl rfl (by decide) (stp_load rfl tf_S_api_Term rfl rfl rfl rfl rfl) ?_; refine awps_stp0 rfl rfl (by decide) (stp_len_dat rfl sl_S_api_Term rfl) ?_; refine awps_stp0 rfl rfl (by decide) (stp_binI rfl rfl rfl rfl) ?_; refine awps_nil ?_; refine thenQ_nil ?_; refine awp_cond rfl (fun c1 => ?_) (fun c1 => ?_)
    · try simp only [↓cqA, cqB] at c1
      obtain ⟨u, hu⟩ := get_of_lt (l := t.args) (k := k) (by omega)
      have hum := List.mem_of_getElem? hu
      have hs1 := varsL_len d (varsR_len d) (t.args.take k) []
      have hs2 := sum_split (nodes d) hu
      have hs3 := varsR_len d u
      simp only [List.length_nil] at hs1
      refine awp_skip ?_; refine thenQ_nil ?_; refine awp_seq ?_; refine awp_block ?_; refine awp_region ?_; refine awps_stp0 rfl rfl (by decide) (stp_move (.inl rfl) rfl) ?_; refine awps_stp0 rfl rfl (by decide) (stp_fieldAddr rfl fo_api_Term_3 rfl) ?_; refine awps_stp0 rfl rfl (by decide) (stp_load rfl tf_S_api_Term rfl rfl rfl rfl rfl) ?_; refine awps_stp0 rfl rfl (by decide) (stp_move (.inl rfl) rfl) ?_; refine awps_stp0 rfl rfl (by decide) (stp_indexAddr rfl sl_S_api_Term rfl rfl (by omega) (tmDs_get hu)) ?_
      refine awps_stp0 rfl rfl (by decide) (stp_load_elpa rfl tf_api_Term rfl rfl) ?_; refine awps_call (avs := [_]) true rfl rfl rfl (by decide) en_almagestref1_Vars rfl rfl (rVars_ok d u (h u hum) (Tm.wfs_mem ht.2.2.2.2 hum) (by omega)) rfl rfl ?_; refine awps_call (avs := [_, _]) true rfl rfl rfl (by decide) en_almagestref1_Names rfl rfl (rNames_ok _ _ (by omega)) rfl rfl ?_; refine awps_stp0 rfl rfl (by decide) (stp_move (.inr rfl) rfl) ?_; refine awps_nil ?_
      refine inQ_nil ?_; refine thenQ_nil ?_; refine awp_region ?_; refine awps_stp0 rfl rfl (by decide) (stp_move (.inl rfl) rfl) ?_; refine awps_stp0 rfl rfl (by decide) (stp_add rfl rfl rfl (by omega)) ?_; refine awps_stp0 rfl rfl (by decide) (stp_move (.inr rfl) rfl) ?_; refine awps_nil ?_; refine thenQ_nil ?_; refine ⟨?_, ?_, ?_⟩
      · skip
        omega
      · skip
        omega
      exact sub_re (SubT.cons (lk_eq rfl (by first | rfl | simp)) (SubT.cons (lk_eq rfl (by rw [take_snoc hu, List.foldl_append]; rfl)) (SubT.cons (lk_eq rfl (by first | rfl | simp)) (SubT.nil)))) (SubO.cons (ok_eq rfl (by rfl)) (SubO.nil)) rfl rfl (noL' (noL hL) _)
    try simp only [↓cqA, cqB] at c1
    refine awp_exit ?_; refine thenQ_exit (thenQ_exit (inQ_hit ?_)); refine thenQ_nil ?_; refine awp_seq ?_; refine awp_region ?_; refine awps_stp0 rfl rfl (by decide) (stp_move (.inl rfl) rfl) ?_; refine awps_stp0 rfl rfl (by decide) (stp_move (.inr rfl) rfl) ?_; refine awps_nil ?_; refine thenQ_nil ?_; refine awp_ret ?_
    -- leaf 0F1F
    refine ret0 (noL hL) (.inl rfl) (resAs_tmp rfl (resAs_nil)) ?_ ?_
    · rfl
    exact ⟨by rw [varsR, if_neg c0, List.take_of_length_le (by omega)]; rfl, rfl⟩
theorem insertS_mem (l : List ByteArray) (x y : ByteArray) : y ∈ insertS l x ↔ y ∈ l ∨ y = x := by
  unfold insertS
  split
  · rename_i h
    have := List.mem_of_getElem? h
    constructor
    · exact .inl
    · rintro (h | rfl)
      · exact h
      · exact this
  · have e : y ∈ l ↔ y ∈ l.take (posS l x) ∨ y ∈ l.drop (posS l x) := by
      rw [← List.mem_append, List.take_append_drop]
    simp only [List.mem_append, List.mem_singleton, e]
    constructor
    · rintro ((h | h) | h) <;> simp [h]
    · rintro ((h | h) | h) <;> simp [h]
theorem namesR_mem (y : ByteArray) : ∀ (b a : List ByteArray), y ∈ namesR a b ↔ y ∈ a ∨ y ∈ b
  | [], a => by simp [namesR]
  | x :: b, a => by
    have := namesR_mem y b (insertS a x)
    simp only [namesR, List.foldl_cons] at this ⊢
    rw [this, insertS_mem, List.mem_cons]
    constructor
    · rintro ((h | h) | h) <;> simp [h]
    · rintro (h | h | h) <;> simp [h]
def vok : Nat → Tm → Prop
  | 0, _ => True
  | d + 1, t => (t.kind = 1 → t.args = []) ∧ ∀ u, u ∈ t.args → vok d u
theorem noteL_mem (d : Nat) (y : ByteArray) (ih : ∀ (t : Tm) (ss : List ByteArray), y ∈ noteS d t ss ↔ y ∈ ss ∨ y ∈ noteS d t []) : ∀ (l : List Tm) (ss : List ByteArray), y ∈ l.foldl (fun s u => noteS d u s) ss ↔ y ∈ ss ∨ ∃ u, u ∈ l ∧ y ∈ noteS d u []
  | [], ss => by simp
  | a :: l, ss => by
    simp only [List.foldl_cons]
    rw [noteL_mem d y ih l (noteS d a ss), ih a ss]
    constructor
    · rintro ((h | h) | ⟨u, h1, h2⟩)
      · exact .inl h
      · exact .inr ⟨a, by simp, h⟩
      · exact .inr ⟨u, by simp [h1], h2⟩
    · rintro (h | ⟨u, h1, h2⟩)
      · exact .inl (.inl h)
      · rcases List.mem_cons.1 h1 with rfl | h1
        · exact .inl (.inr h2)
        · exact .inr ⟨u, h1, h2⟩
theorem noteS_mem : ∀ (d : Nat) (y : ByteArray) (t : Tm) (ss : List ByteArray), y ∈ noteS d t ss ↔ y ∈ ss ∨ y ∈ noteS d t []
  | 0, y, t, ss => by simp [noteS]
  | d + 1, y, t, ss => by
    simp only [noteS]
    rw [noteL_mem d y (noteS_mem d y), noteL_mem d y (noteS_mem d y) t.args (if t.kind = 1 then t.name :: [] else [])]
    split
    · simp only [List.mem_cons, List.not_mem_nil, or_false]
      constructor
      · rintro ((h | h) | h) <;> simp [h]
      · rintro (h | h | h) <;> simp [h]
    · simp
theorem varsL_mem (d : Nat) (y : ByteArray) : ∀ (l : List Tm) (acc : List ByteArray), y ∈ l.foldl (fun acc u => namesR acc (varsR d u)) acc ↔ y ∈ acc ∨ ∃ u, u ∈ l ∧ y ∈ varsR d u
  | [], acc => by simp
  | a :: l, acc => by
    simp only [List.foldl_cons]
    rw [varsL_mem d y l, namesR_mem]
    constructor
    · rintro ((h | h) | ⟨u, h1, h2⟩)
      · exact .inl h
      · exact .inr ⟨a, by simp, h⟩
      · exact .inr ⟨u, by simp [h1], h2⟩
    · rintro (h | ⟨u, h1, h2⟩)
      · exact .inl (.inl h)
      · rcases List.mem_cons.1 h1 with rfl | h1
        · exact .inl (.inr h2)
        · exact .inr ⟨u, h1, h2⟩
theorem varsR_note : ∀ (d : Nat) (y : ByteArray) (t : Tm), vok d t → (y ∈ varsR d t ↔ y ∈ noteS d t [])
  | 0, y, t, _ => by simp [varsR, noteS]
  | d + 1, y, t, h => by
    simp only [varsR, noteS]
    rw [noteL_mem d y (noteS_mem d y)]
    split
    · rename_i hk
      rw [h.1 hk]; simp
    · rw [varsL_mem]
      constructor
      · rintro (h1 | ⟨u, h1, h2⟩)
        · simp at h1
        · exact .inr ⟨u, h1, (varsR_note d y u (h.2 u h1)).1 h2⟩
      · rintro (h1 | ⟨u, h1, h2⟩)
        · simp at h1
        · exact .inr ⟨u, h1, (varsR_note d y u (h.2 u h1)).2 h2⟩
theorem mayL_vok (d : Nat) (ih : ∀ (t : Tm) (n : Int), (mayS d t n).1 = true → vok d t) : ∀ (l : List Tm) (n : Int), (mayL (mayS d) l n).1 = true → ∀ u, u ∈ l → vok d u
  | [], n, _, u, hu => by simp at hu
  | a :: l, n, h, u, hu => by
    simp only [mayL] at h
    split at h
    · rename_i hb
      rcases List.mem_cons.1 hu with rfl | hu
      · exact ih _ n hb
      · exact mayL_vok d ih l _ h u hu
    · cases h
theorem mayS_vok : ∀ (d : Nat) (t : Tm) (n : Int), (mayS d t n).1 = true → vok d t
  | 0, t, n, h => trivial
  | d + 1, t, n, h => by
    have e0 : ∀ l : List Tm, l.length = 0 → l = [] := fun l h => List.eq_nil_of_length_eq_zero h
    simp only [mayS] at h
    split at h
    · cases h
    split at h
    · simp only [Bool.and_eq_true, decide_eq_true_eq] at h
      have := e0 _ h.2
      simp [vok, this]
    rename_i k1
    split at h
    · simp only [Bool.and_eq_true, decide_eq_true_eq] at h
      have := e0 _ h.2
      simp [vok, this]
    split at h
    · split at h
      · exact ⟨fun hk => absurd hk k1, mayL_vok d (mayS_vok d) t.args (n - 1) h⟩
      · cases h
    · cases h
theorem rGround_ok (t : Tm) (ht : t.wf) (hm : mayT t = true) : PF 103 [tmA false t] (bv (groundB t)) := by
  obtain ⟨h1, h2⟩ := mayT_dle hm
  have hv := mayS_vok 5 t 24 hm
  refine AC_intro Tryz.func103 rfl Tryz.ntmps103 (Nat.le_of_ble_eq_true rfl) fun c hL hQ hDD => ?_; refine awp_seq ?_; refine awp_region ?_; refine awps_stp1 rfl rfl (by decide) (stp_box 1 rfl rfl rfl) rfl ?_; refine awps_stp0 rfl rfl (by decide) (stp_move (.inr rfl) rfl) ?_; refine awps_nil ?_; refine thenQ_nil ?_; refine awp_seq ?_; refine awp_region ?_; refine awps_stp0 rfl rfl (by decide) (stp_load_all rfl tf_api_Term rfl rfl rfl rfl) ?_; refine awps_call (avs := [_]) true rfl rfl rfl (by decide) en_almagestref1_Vars rfl rfl (rVars_ok 5 t h1 ht (by omega)) rfl rfl ?_
  refine awps_stp0 rfl rfl (by decide) (stp_len_dat rfl sl_S_string rfl) ?_; refine awps_stp0 rfl rfl (by decide) (stp_binI rfl rfl rfl rfl) ?_; refine awps_stp0 rfl rfl (by decide) (stp_move (.inr rfl) rfl) ?_; refine awps_nil ?_; refine thenQ_nil ?_; refine awp_ret ?_
  -- leaf 
  refine ret0 (noL hL) (.inl rfl) (resAs_tmp rfl (resAs_nil)) ?_ ?_
  · rfl
  refine ⟨bool_w ?_, rfl⟩
  rw [strDs_length, natBeq0, groundB, Bool.eq_iff_iff, decide_eq_true_eq, List.length_eq_zero_iff, List.isEmpty_iff]
  constructor
  · intro h; exact List.eq_nil_iff_forall_not_mem.2 fun s hs => by have := (varsR_note 5 s t hv).2 hs; rw [h] at this; simp at this
  · intro h; exact List.eq_nil_iff_forall_not_mem.2 fun s hs => by have := (varsR_note 5 s t hv).1 hs; rw [h] at this; simp at this
theorem rsign_ok (x y : Int) : PF 198 [iv x, iv y] (iv (cmpI x y)) := by
  refine AC_intro Tryz.func198 rfl Tryz.ntmps198 (Nat.le_of_ble_eq_true rfl) fun c hL hQ hDD => ?_; refine awp_seq ?_; refine awp_region ?_; refine awps_stp0 rfl rfl (by decide) (stp_move (.inr rfl) rfl) ?_; refine awps_nil ?_; refine thenQ_nil ?_; refine awp_seq ?_; refine awp_block ?_; refine awp_seq ?_; refine awp_region ?_; refine awps_stp0 rfl rfl (by decide) (stp_move (.inl rfl) rfl) ?_
  refine awps_stp0 rfl rfl (by decide) (stp_move (.inl rfl) rfl) ?_; refine awps_stp0 rfl rfl (by decide) (stp_binI rfl rfl rfl rfl) ?_; refine awps_stp0 rfl rfl (by decide) (stp_move (.inr rfl) rfl) ?_; refine awps_nil ?_; refine thenQ_nil ?_; refine awp_cond rfl (fun c0 => ?_) (fun c0 => ?_)
  · try simp only [↓cqA, cqB] at c0
    refine awp_seq ?_; refine awp_region ?_; refine awps_stp0 rfl rfl (by decide) (stp_move (.inr rfl) rfl) ?_; refine awps_nil ?_; refine thenQ_nil ?_; refine awp_ret ?_; refine inQ_ret (thenQ_ret (?_))
    -- leaf 0T
    refine ret0 (noL hL) (.inl rfl) (resAs_tmp rfl (resAs_nil)) ?_ ?_
    · rfl
    refine ⟨int_w ?_, rfl⟩
    simp only [cmpI]; split <;> (try split) <;> omega
  try simp only [↓cqA, cqB] at c0
  refine awp_seq ?_; refine awp_region ?_; refine awps_stp0 rfl rfl (by decide) (stp_move (.inl rfl) rfl) ?_; refine awps_stp0 rfl rfl (by decide) (stp_move (.inl rfl) rfl) ?_; refine awps_stp0 rfl rfl (by decide) (stp_binI rfl rfl rfl rfl) ?_; refine awps_stp0 rfl rfl (by decide) (stp_move (.inr rfl) rfl) ?_; refine awps_nil ?_; refine thenQ_nil ?_; refine awp_cond rfl (fun c1 => ?_) (fun c1 => ?_)
  · try simp only [↓cqA, cqB] at c1
    refine awp_seq ?_; refine awp_region ?_; refine awps_stp0 rfl rfl (by decide) (stp_move (.inr rfl) rfl) ?_; refine awps_nil ?_; refine thenQ_nil ?_; refine awp_ret ?_; refine inQ_ret (thenQ_ret (?_))
    -- leaf 0F1T
    refine ret0 (noL hL) (.inl rfl) (resAs_tmp rfl (resAs_nil)) ?_ ?_
    · rfl
    refine ⟨int_w ?_, rfl⟩
    simp only [cmpI]; split <;> (try split) <;> omega
  try simp only [↓cqA, cqB] at c1
  refine awp_skip ?_; refine inQ_nil ?_; refine thenQ_nil ?_; refine awp_seq ?_; refine awp_region ?_; refine awps_stp0 rfl rfl (by decide) (stp_move (.inr rfl) rfl) ?_; refine awps_nil ?_; refine thenQ_nil ?_; refine awp_ret ?_
  -- leaf 0F1F
  refine ret0 (noL hL) (.inl rfl) (resAs_tmp rfl (resAs_nil)) ?_ ?_
  · rfl
  refine ⟨int_w ?_, rfl⟩
  simp only [cmpI]; split <;> (try split) <;> omega
end Go.Proofs.YtdecgkhdbfgldaaGreat

set_option linter.unusedVariables false
set_option linter.unusedSimpArgs false
set_option maxRecDepth 8000
namespace Go.Proofs.YtdecgkhdbfgldaaGreat
open Go
theorem cmpBytes_less : ∀ a b : List UInt8, Lib.compareBytes a b = if Op.bytesLess a b = true then -1 else if a = b then 0 else 1
  | [], [] => by simp [Lib.compareBytes, Op.bytesLess]
  | [], _ :: _ => by simp [Lib.compareBytes, Op.bytesLess]
  | _ :: _, [] => by simp [Lib.compareBytes, Op.bytesLess]
  | a :: l, b :: m => by
    have ih := cmpBytes_less l m
    simp only [Lib.compareBytes, Op.bytesLess]
    by_cases h1 : a < b
    · simp [h1]
    · by_cases h2 : b < a
      · have : a ≠ b := fun e => by subst e; exact h1 h2
        simp [h1, h2, this]
      · have : a = b := by
          rcases Nat.lt_trichotomy a.toNat b.toNat with h | h | h
          · exact absurd (UInt8.lt_iff_toNat_lt.2 h) h1
          · exact UInt8.toNat_inj.1 h
          · exact absurd (UInt8.lt_iff_toNat_lt.2 h) h2
        subst this
        simp [h1, ih]
theorem cmpS_eq (a b : ByteArray) : cmpS a b = if ltS a b = true then -1 else if a = b then 0 else 1 := by
  unfold cmpS ltS
  rw [cmpBytes_less, ByteArray.toList_eq, ByteArray.toList_eq]
  have : a.data.toList = b.data.toList ↔ a = b := by rw [← ByteArray.toList_eq, ← ByteArray.toList_eq]; exact toList_inj
  simp only [this]
theorem rtext_ok (x y : ByteArray) : PF 199 [sv x, sv y] (iv (cmpS x y)) := by
  refine AC_intro Tryz.func199 rfl Tryz.ntmps199 (Nat.le_of_ble_eq_true rfl) fun c hL hQ hDD => ?_; refine awp_seq ?_; refine awp_region ?_; refine awps_stp0 rfl rfl (by decide) (stp_move (.inr rfl) rfl) ?_; refine awps_nil ?_; refine thenQ_nil ?_; refine awp_seq ?_; refine awp_block ?_; refine awp_seq ?_; refine awp_region ?_; refine awps_stp0 rfl rfl (by decide) (stp_move (.inl rfl) rfl) ?_
  refine awps_stp0 rfl rfl (by decide) (stp_move (.inl rfl) rfl) ?_; refine awps_stp0 rfl rfl (by decide) (stp_binS rfl rfl rfl rfl) ?_; refine awps_stp0 rfl rfl (by decide) (stp_move (.inr rfl) rfl) ?_; refine awps_nil ?_; refine thenQ_nil ?_; refine awp_cond rfl (fun c0 => ?_) (fun c0 => ?_)
  · try simp only [↓cqA, cqB] at c0
    refine awp_seq ?_; refine awp_region ?_; refine awps_stp0 rfl rfl (by decide) (stp_move (.inr rfl) rfl) ?_; refine awps_nil ?_; refine thenQ_nil ?_; refine awp_ret ?_; refine inQ_ret (thenQ_ret (?_))
    -- leaf 0T
    refine ret0 (noL hL) (.inl rfl) (resAs_tmp rfl (resAs_nil)) ?_ ?_
    · rfl
    refine ⟨int_w ?_, rfl⟩
    rw [cmpS_eq, if_pos (show ltS x y = true from c0)]
  try simp only [↓cqA, cqB] at c0
  refine awp_seq ?_; refine awp_region ?_; refine awps_stp0 rfl rfl (by decide) (stp_move (.inl rfl) rfl) ?_; refine awps_stp0 rfl rfl (by decide) (stp_move (.inl rfl) rfl) ?_; refine awps_stp0 rfl rfl (by decide) (stp_binS rfl rfl rfl rfl) ?_; refine awps_stp0 rfl rfl (by decide) (stp_move (.inr rfl) rfl) ?_; refine awps_nil ?_; refine thenQ_nil ?_; refine awp_cond rfl (fun c1 => ?_) (fun c1 => ?_)
  · try simp only [↓cqA, cqB] at c1
    refine awp_seq ?_; refine awp_region ?_; refine awps_stp0 rfl rfl (by decide) (stp_move (.inr rfl) rfl) ?_; refine awps_nil ?_; refine thenQ_nil ?_; refine awp_ret ?_; refine inQ_ret (thenQ_ret (?_))
    -- leaf 0F1T
    refine ret0 (noL hL) (.inl rfl) (resAs_tmp rfl (resAs_nil)) ?_ ?_
    · rfl
    refine ⟨int_w ?_, rfl⟩
    simp only [Bool.or_eq_false_iff] at c1
    rw [cmpS_eq, if_neg (show ¬ ltS x y = true by rw [show ltS x y = false from c0]; simp), if_neg (by intro h; have := c1.2; simp [h] at this)]
  try simp only [↓cqA, cqB] at c1
  refine awp_skip ?_; refine inQ_nil ?_; refine thenQ_nil ?_; refine awp_seq ?_; refine awp_region ?_; refine awps_stp0 rfl rfl (by decide) (stp_move (.inr rfl) rfl) ?_; refine awps_nil ?_; refine thenQ_nil ?_; refine awp_ret ?_
  -- leaf 0F1F
  refine ret0 (noL hL) (.inl rfl) (resAs_tmp rfl (resAs_nil)) ?_ ?_
  · rfl
  refine ⟨int_w ?_, rfl⟩
  have c0' : Op.bytesLess x.toList y.toList = false := c0
  rw [c0'] at c1
  simp only [Bool.false_or, str_beq_t] at c1
  rw [cmpS_eq, if_neg (show ¬ ltS x y = true by rw [show ltS x y = false from c0]; simp), if_pos c1]
def ordL (f : Tm → Tm → Int) : Int → List Tm → List Tm → Int
  | n, a :: l, b :: m => if n = 0 then ordL f (f a b) l m else n
  | n, _, _ => n
def ordT : Nat → Tm → Tm → Int
  | 0, _, _ => 0
  | d + 1, a, b =>
    if a.kind ≠ b.kind then cmpI a.kind b.kind
    else if a.kind = 1 then cmpS a.name b.name
    else if a.kind = 2 then cmpI a.n b.n
    else ordL (ordT d) (if cmpI a.args.length b.args.length = 0 then cmpS a.name b.name else cmpI a.args.length b.args.length) a.args b.args
theorem ordL_take (f : Tm → Tm → Int) : ∀ (k : Nat) (n : Int) (l m : List Tm), k ≤ l.length → k ≤ m.length → (∀ j, j < k → ordL f n (l.take j) (m.take j) = 0) → ordL f n l m = ordL f (ordL f n (l.take k) (m.take k)) (l.drop k) (m.drop k)
  | 0, n, l, m, _, _, _ => by simp [ordL]
  | k + 1, n, [], m, h, _, _ => by simp at h
  | k + 1, n, l, [], _, h, _ => by simp at h
  | k + 1, n, a :: l, b :: m, h1, h2, h => by
    have h0 : n = 0 := by have := h 0 (by omega); simpa [ordL] using this
    simp only [List.take_succ_cons, List.drop_succ_cons, ordL, if_pos h0]
    refine ordL_take f k _ l m (by simpa using h1) (by simpa using h2) fun j hj => ?_
    have := h (j + 1) (by omega)
    simpa [ordL, h0] using this
theorem ordL_stop (f : Tm → Tm → Int) (n : Int) (l m : List Tm) (h : ¬ n = 0) : ordL f n l m = n := by
  cases l <;> cases m <;> simp [ordL, h]
theorem ordL_snoc (f : Tm → Tm → Int) (n : Int) (l m : List Tm) (a b : Tm) (hl : l.length = m.length) (h : ∀ j, j ≤ l.length → ordL f n (l.take j) (m.take j) = 0) : ordL f n (l ++ [a]) (m ++ [b]) = f a b := by
  have h1 := ordL_take f l.length n (l ++ [a]) (m ++ [b]) (by simp) (by simp; omega) (fun j hj => by
    have := h j (by omega)
    rwa [List.take_append_of_le_length (by omega), List.take_append_of_le_length (by omega)])
  have h2 := h l.length (Nat.le_refl _)
  rw [h1]
  simp only [List.take_left, List.drop_left]
  rw [hl, List.take_left, List.drop_left]
  rw [List.take_length, hl, List.take_length] at h2
  rw [h2]
  simp [ordL]
theorem ordL_nil (f : Tm → Tm → Int) (n : Int) (l m : List Tm) (h : l = [] ∨ m = []) : ordL f n l m = n := by
  rcases h with rfl | rfl
  · cases m <;> rfl
  · cases l <;> rfl
theorem ordL_fin (f : Tm → Tm → Int) (n : Int) (l m : List Tm) (k : Nat) (hk : k ≤ l.length) (h : ∀ j, j < k → ordL f n (l.take j) (m.take j) = 0) (he : k = l.length ∨ ¬ ordL f n (l.take k) (m.take k) = 0) (hn : n = 0 → l.length = m.length) : ordL f n (l.take k) (m.take k) = ordL f n l m := by
  by_cases h0 : k = 0
  · subst h0
    simp only [List.take_zero] at he ⊢
    rw [ordL_nil f n [] [] (.inl rfl)] at he ⊢
    rcases he with he | he
    · rw [ordL_nil f n l m (.inl (List.eq_nil_of_length_eq_zero he.symm))]
    · exact (ordL_stop f n l m he).symm
  · have hz := h 0 (by omega)
    simp only [List.take_zero] at hz
    rw [ordL_nil f n [] [] (.inl rfl)] at hz
    have hl := hn hz
    rcases he with he | he
    · rw [List.take_of_length_le (by omega), List.take_of_length_le (by omega)]
    · exact ((ordL_take f k n l m hk (by omega) h).trans (ordL_stop f _ _ _ he)).symm
theorem Order_ok : ∀ (d : Nat) (a b : Tm), dle d a → a.wf → b.wf → PF 137 [tmA false a, tmA false b] (iv (ordT d a b))
  | 0, a, b, h, _, _ => h.elim
  | d + 1, a, b, h, ha, hb => by
    have h1 := ha.2.2.2.1
    have h2 := hb.2.2.2.1
    have hla := tmDs_length a.args
    have hlb := tmDs_length b.args
    have hcl : cmpI a.args.length b.args.length = 0 → a.args.length = b.args.length := fun h => by
      simp only [cmpI] at h
      split at h
      · cases h
      · split at h
        · cases h
        · omega
    let n0 : Int := if cmpI a.args.length b.args.length = 0 then cmpS a.name b.name else cmpI a.args.length b.args.length
    have hn0 : n0 = 0 → a.args.length = b.args.length := fun hz => hcl (by
      by_cases hq : cmpI a.args.length b.args.length = 0
      · exact hq
      · simpa only [n0, if_neg hq] using hz)
    refine AC_intro Tryz.func137 rfl Tryz.ntmps137 (Nat.le_of_ble_eq_true rfl) fun c hL hQ hDD => ?_; refine awp_seq ?_; refine awp_region ?_; refine awps_stp1 rfl rfl (by decide) (stp_box 2 rfl rfl rfl) rfl ?_; refine awps_stp1 rfl rfl (by decide) (stp_box 3 rfl rfl rfl) rfl ?_; refine awps_stp0 rfl rfl (by decide) (stp_move (.inr rfl) rfl) ?_; refine awps_nil ?_; refine thenQ_nil ?_; refine awp_seq ?_; refine awp_seq ?_; refine awp_region ?_; refine awps_stp0 rfl rfl (by decide) (stp_fieldAddr rfl fo_api_Term_0 rfl) ?_
    refine awps_stp0 rfl rfl (by decide) (stp_load rfl tf_int rfl rfl rfl rfl rfl) ?_; refine awps_stp0 rfl rfl (by decide) (stp_fieldAddr rfl fo_api_Term_0 rfl) ?_; refine awps_stp0 rfl rfl (by decide) (stp_load rfl tf_int rfl rfl rfl rfl rfl) ?_; refine awps_stp0 rfl rfl (by decide) (stp_binI rfl rfl rfl rfl) ?_; refine awps_nil ?_; refine thenQ_nil ?_; refine awp_cond rfl (fun c0 => ?_) (fun c0 => ?_)
    · try simp only [↓cqA, cqB] at c0
      refine awp_seq ?_; refine awp_region ?_; refine awps_stp0 rfl rfl (by decide) (stp_fieldAddr rfl fo_api_Term_0 rfl) ?_; refine awps_stp0 rfl rfl (by decide) (stp_load rfl tf_int rfl rfl rfl rfl rfl) ?_; refine awps_stp0 rfl rfl (by decide) (stp_fieldAddr rfl fo_api_Term_0 rfl) ?_; refine awps_stp0 rfl rfl (by decide) (stp_load rfl tf_int rfl rfl rfl rfl rfl) ?_
      refine awps_call (avs := [_, _]) true rfl rfl rfl (by decide) en_almagestref1_sign rfl rfl (rsign_ok _ _) rfl rfl ?_; refine awps_stp0 rfl rfl (by decide) (stp_move (.inr rfl) rfl) ?_; refine awps_nil ?_; refine thenQ_nil ?_; refine awp_ret ?_; refine thenQ_ret (?_)
      -- leaf 0T
      refine ret0 (noL hL) (.inl rfl) (resAs_tmp rfl (resAs_nil)) ?_ ?_
      · rfl
      exact ⟨int_w (by rw [ordT, if_pos c0]), rfl⟩
    try simp only [↓cqA, cqB] at c0
    refine awp_skip ?_; refine thenQ_nil ?_; refine awp_seq ?_; refine awp_region ?_; refine awps_stp0 rfl rfl (by decide) (stp_move (.inr rfl) rfl) ?_; refine awps_nil ?_; refine thenQ_nil ?_; refine awp_seq ?_; refine awp_seq ?_; refine awp_region ?_; refine awps_stp0 rfl rfl (by decide) (stp_fieldAddr rfl fo_api_Term_0 rfl) ?_; refine awps_stp0 rfl rfl (by decide) (stp_load rfl tf_int rfl rfl rfl rfl rfl) ?_
    refine awps_nil ?_; refine thenQ_nil ?_; refine awp_block ?_; refine awp_seq ?_; refine awp_region ?_; refine awps_stp0 rfl rfl (by decide) (stp_binI rfl rfl rfl rfl) ?_; refine awps_stp0 rfl rfl (by decide) (stp_move (.inr rfl) rfl) ?_; refine awps_nil ?_; refine thenQ_nil ?_; refine awp_cond rfl (fun c1 => ?_) (fun c1 => ?_)
    · try simp only [↓cqA, cqB] at c1
      refine awp_seq ?_; refine awp_region ?_; refine awps_stp0 rfl rfl (by decide) (stp_fieldAddr rfl fo_api_Term_1 rfl) ?_; refine awps_stp0 rfl rfl (by decide) (stp_load rfl tf_string rfl rfl rfl rfl rfl) ?_; refine awps_stp0 rfl rfl (by decide) (stp_fieldAddr rfl fo_api_Term_1 rfl) ?_; refine awps_stp0 rfl rfl (by decide) (stp_load rfl tf_string rfl rfl rfl rfl rfl) ?_
      refine awps_call (avs := [_, _]) true rfl rfl rfl (by decide) en_almagestref1_text rfl rfl (rtext_ok _ _) rfl rfl ?_; refine awps_stp0 rfl rfl (by decide) (stp_move (.inr rfl) rfl) ?_; refine awps_nil ?_; refine thenQ_nil ?_; refine awp_ret ?_; refine inQ_ret (thenQ_ret (?_))
      -- leaf 0F1T
      refine ret0 (noL hL) (.inl rfl) (resAs_tmp rfl (resAs_nil)) ?_ ?_
      · rfl
      exact ⟨int_w (by rw [ordT, if_neg (by simp [c0]), if_pos c1]), rfl⟩
    try simp only [↓cqA, cqB] at c1
    refine awp_seq ?_; refine awp_region ?_; refine awps_stp0 rfl rfl (by decide) (stp_binI rfl rfl rfl rfl) ?_; refine awps_stp0 rfl rfl (by decide) (stp_move (.inr rfl) rfl) ?_; refine awps_nil ?_; refine thenQ_nil ?_; refine awp_cond rfl (fun c2 => ?_) (fun c2 => ?_)
    · try simp only [↓cqA, cqB] at c2
      refine awp_seq ?_; refine awp_region ?_; refine awps_stp0 rfl rfl (by decide) (stp_fieldAddr rfl fo_api_Term_2 rfl) ?_; refine awps_stp0 rfl rfl (by decide) (stp_load rfl tf_int rfl rfl rfl rfl rfl) ?_; refine awps_stp0 rfl rfl (by decide) (stp_fieldAddr rfl fo_api_Term_2 rfl) ?_; refine awps_stp0 rfl rfl (by decide) (stp_load rfl tf_int rfl rfl rfl rfl rfl) ?_
      refine awps_call (avs := [_, _]) true rfl rfl rfl (by decide) en_almagestref1_sign rfl rfl (rsign_ok _ _) rfl rfl ?_; refine awps_stp0 rfl rfl (by decide) (stp_move (.inr rfl) rfl) ?_; refine awps_nil ?_; refine thenQ_nil ?_; refine awp_ret ?_; refine inQ_ret (thenQ_ret (?_))
      -- leaf 0F1F2T
      refine ret0 (noL hL) (.inl rfl) (resAs_tmp rfl (resAs_nil)) ?_ ?_
      · rfl
      exact ⟨int_w (by rw [ordT, if_neg (by simp [c0]), if_neg c1, if_pos c2]), rfl⟩
    try simp only [↓cqA, cqB] at c2
    refine awp_skip ?_; refine inQ_nil ?_; refine thenQ_nil ?_; refine awp_seq ?_; refine awp_region ?_; refine awps_stp0 rfl rfl (by decide) (stp_fieldAddr rfl fo_api_Term_3 rfl) ?_; refine awps_stp0 rfl rfl (by decide) (stp_load rfl tf_S_api_Term rfl rfl rfl rfl rfl) ?_; refine awps_stp0 rfl rfl (by decide) (stp_len_dat rfl sl_S_api_Term rfl) ?_; refine awps_stp0 rfl rfl (by decide) (stp_fieldAddr rfl fo_api_Term_3 rfl) ?_; refine awps_stp0 rfl rfl (by decide) (stp_load rfl tf_S_api_Term rfl rfl rfl rfl rfl) ?_; refine awps_stp0 rfl rfl (by decide) (stp_len_dat rfl sl_S_api_Term rfl) ?_
    refine awps_call (avs := [_, _]) true rfl rfl rfl (by decide) en_almagestref1_sign rfl rfl (rsign_ok _ _) rfl rfl ?_; refine awps_stp0 rfl rfl (by decide) (stp_move (.inr rfl) rfl) ?_; refine awps_nil ?_; refine thenQ_nil ?_; refine awp_seq ?_; refine awp_seq ?_; refine awp_region ?_; refine awps_stp0 rfl rfl (by decide) (stp_move (.inl rfl) rfl) ?_; refine awps_stp0 rfl rfl (by decide) (stp_binI rfl rfl rfl rfl) ?_; refine awps_nil ?_; refine thenQ_nil ?_; refine awp_cond rfl (fun c3 => ?_) (fun c3 => ?_)
    · try simp only [↓cqA, cqB] at c3
      refine awp_region ?_; refine awps_stp0 rfl rfl (by decide) (stp_fieldAddr rfl fo_api_Term_1 rfl) ?_; refine awps_stp0 rfl rfl (by decide) (stp_load rfl tf_string rfl rfl rfl rfl rfl) ?_; refine awps_stp0 rfl rfl (by decide) (stp_fieldAddr rfl fo_api_Term_1 rfl) ?_; refine awps_stp0 rfl rfl (by decide) (stp_load rfl tf_string rfl rfl rfl rfl rfl) ?_
      refine awps_call (avs := [_, _]) true rfl rfl rfl (by decide) en_almagestref1_text rfl rfl (rtext_ok _ _) rfl rfl ?_; refine awps_stp0 rfl rfl (by decide) (stp_move (.inr rfl) rfl) ?_; refine awps_nil ?_; refine thenQ_nil ?_; refine awp_seq ?_; refine awp_seq ?_; refine awp_region ?_; refine awps_stp0 rfl rfl (by decide) (stp_move (.inr rfl) rfl) ?_; refine awps_nil ?_; refine thenQ_nil ?_; refine awp_block ?_
      refine awp_while (a.args.length) (fun k => k ≤ a.args.length ∧ ∀ j, j < k → ordL (ordT d) n0 (a.args.take j) (b.args.take j) = 0) (fun k => ⟨[(2, .ptr 2 0), (3, .ptr 3 0), (5, iv (ordL (ordT d) n0 (a.args.take k) (b.args.take k))), (6, iv (k : Int))], [(2, .box (lift false (tmD a))), (3, .box (lift false (tmD b)))]⟩) (⟨by omega, fun j hj => absurd hj (by omega)⟩) ?_ (fun k hk hp => ?_)
      · exact sub_re (SubT.cons (lk_eq rfl (by first | rfl | simp)) (SubT.cons (lk_eq rfl (by first | rfl | simp)) (SubT.cons (lk_eq rfl (by exact int_imm (by rw [hla, hlb] at c3; simp only [n0, List.take_zero, ordL, c3, if_true, if_false, hla, hlb]))) (SubT.cons (lk_eq rfl (by first | rfl | simp)) (SubT.nil))))) (SubO.cons (ok_eq rfl (by rfl)) (SubO.cons (ok_eq rfl (by rfl)) (SubO.nil))) rfl rfl (noL' (noL hL) _)
      refine awp_seq ?_; refine awp_seq ?_; refine awp_region ?_; refine awps_stp0 rfl rfl (by decide) (stp_move (.inl rfl) rfl) ?_; refine awps_stp0 rfl rfl (by decide) (stp_fieldAddr rfl fo_api_Term_3 rfl) ?_; refine awps_stp0 rfl rfl (by decide) (stp_load rfl tf_S_api_Term rfl rfl rfl rfl rfl) ?_; refine awps_stp0 rfl rfl (by decide) (stp_len_dat rfl sl_S_api_Term rfl) ?_; refine awps_stp0 rfl rfl (by decide) (stp_binI rfl rfl rfl rfl) ?_; refine awps_stp0 rfl rfl (by decide) (stp_move (.inl rfl) rfl) ?_; refine awps_split 52 rfl (fun g52 => ?_) (fun g52 => ?_)
      · try simp only [↓cqA, cqB] at g52
        refine awps_g0 rfl rfl rfl (by decide) rfl (by decide) (stp_move (.inl rfl) rfl) ?_; refine awps_g0 rfl rfl rfl (by decide) rfl (by decide) (stp_binI rfl rfl rfl rfl) ?_; refine awps_stp0 rfl rfl (by decide) (stp_pick rfl rfl rfl) ?_; refine awps_nil ?_; refine thenQ_nil ?_; refine awp_cond rfl (fun c4 => ?_) (fun c4 => ?_)
        · try simp only [↓cqA, cqB] at c4
          have hz : n0 = 0 := by
            by_cases hk00 : 0 < k
            · have := hp.2 0 hk00
              simpa only [List.take_zero, ordL_nil (ordT d) n0 [] [] (.inl rfl)] using this
            · have e : k = 0 := by omega
              rw [e] at c4
              simpa only [List.take_zero, ordL_nil (ordT d) n0 [] [] (.inl rfl)] using c4
          have hll : a.args.length = b.args.length := hn0 hz
          obtain ⟨u, hu⟩ := get_of_lt (l := a.args) (k := k) (by omega)
          obtain ⟨v, hv⟩ := get_of_lt (l := b.args) (k := k) (by omega)
          have hum := List.mem_of_getElem? hu
          have hvm := List.mem_of_getElem? hv
          refine awp_skip ?_; refine thenQ_nil ?_; refine awp_seq ?_; refine awp_block ?_; refine awp_drawG 10 mixed rfl rfl rfl rfl ?_; refine MGo_c0 rfl (by decide) (.run rfl (stp_fieldAddr rfl fo_api_Term_3 rfl)) ?_; refine MGo_c0 rfl (by decide) (.run rfl (stp_load rfl tf_S_api_Term rfl rfl rfl rfl rfl)) ?_; refine MGo_c0 rfl (by decide) (.run rfl (stp_move (.inl rfl) rfl)) ?_; refine MGo_c0 rfl (by decide) (.run rfl (stp_indexAddr rfl sl_S_api_Term rfl rfl (by omega) (tmDs_get hu))) ?_; refine MGo_c0 rfl (by decide) (.run rfl (stp_load_elpa rfl tf_api_Term rfl rfl)) ?_
          refine MGo_c0 rfl (by decide) (.run rfl (stp_fieldAddr rfl fo_api_Term_3 rfl)) ?_; refine MGo_c0 rfl (by decide) (.run rfl (stp_load rfl tf_S_api_Term rfl rfl rfl rfl rfl)) ?_; refine MGo_c0 rfl (by decide) (.run rfl (stp_move (.inl rfl) rfl)) ?_; refine MGo_c0 rfl (by decide) (.run rfl (stp_indexAddr rfl sl_S_api_Term rfl rfl (by omega) (tmDs_get hv))) ?_; refine MGo_c0 rfl (by decide) (.run rfl (stp_load_elpa rfl tf_api_Term rfl rfl)) ?_
          refine MGo_nil ⟨rfl, rfl, ?_⟩; refine awps_call (avs := [_, _]) true rfl rfl rfl (by decide) en_almagestref1_Order rfl rfl (Order_ok d u v (h u hum) (Tm.wfs_mem ha.2.2.2.2 hum) (Tm.wfs_mem hb.2.2.2.2 hvm)) rfl rfl ?_; refine awps_stp0 rfl rfl (by decide) (stp_move (.inr rfl) rfl) ?_; refine awps_nil ?_; refine inQ_nil ?_; refine thenQ_nil ?_; refine awp_region ?_
          refine awps_stp0 rfl rfl (by decide) (stp_move (.inl rfl) rfl) ?_; refine awps_stp0 rfl rfl (by decide) (stp_add rfl rfl rfl (by omega)) ?_; refine awps_stp0 rfl rfl (by decide) (stp_move (.inr rfl) rfl) ?_; refine awps_nil ?_
          have hb5 : ordT d u v = ordL (ordT d) n0 (a.args.take (k + 1)) (b.args.take (k + 1)) := by
            rw [take_snoc hu, take_snoc hv, ordL_snoc _ _ _ _ _ _ (by simp; omega) (fun j hj => by
              by_cases hjk : j < k
              · have := hp.2 j hjk; rwa [List.take_take, List.take_take, Nat.min_eq_left (by omega)]
              · have hj2 : j ≤ k := by rw [List.length_take] at hj; omega
                rw [show j = k by omega, List.take_take, List.take_take, Nat.min_self]; exact c4)]
          refine thenQ_nil ?_; refine ⟨?_, ?_, ?_⟩
          · skip
            omega
          · skip
            refine ⟨by omega, fun j hj => ?_⟩
            by_cases hjk : j < k
            · exact hp.2 j hjk
            · rw [show j = k by omega]; exact c4
          exact sub_re (SubT.cons (lk_eq rfl (by first | rfl | simp)) (SubT.cons (lk_eq rfl (by first | rfl | simp)) (SubT.cons (lk_eq rfl (by exact int_imm hb5)) (SubT.cons (lk_eq rfl (by first | rfl | simp)) (SubT.nil))))) (SubO.cons (ok_eq rfl (by rfl)) (SubO.cons (ok_eq rfl (by rfl)) (SubO.nil))) rfl rfl (noL' (noL hL) _)
        try simp only [↓cqA, cqB] at c4
        have hfin := ordL_fin (ordT d) n0 a.args b.args k hp.1 hp.2 (.inr c4) hn0
        refine awp_exit ?_; refine thenQ_exit (thenQ_exit (inQ_hit ?_)); refine thenQ_nil ?_; refine awp_seq ?_; refine awp_region ?_; refine awps_stp0 rfl rfl (by decide) (stp_move (.inl rfl) rfl) ?_; refine awps_stp0 rfl rfl (by decide) (stp_move (.inr rfl) rfl) ?_; refine awps_nil ?_; refine thenQ_nil ?_; refine awp_ret ?_
        -- leaf 0F1F2F3Tg52T4F
        refine ret0 (noL hL) (.inl rfl) (resAs_tmp rfl (resAs_nil)) ?_ ?_
        · rfl
        exact ⟨int_w (by rw [ordT, if_neg (by simp [c0]), if_neg c1, if_neg c2]; exact hfin), rfl⟩
      try simp only [↓cqA, cqB] at g52
      have hfin := ordL_fin (ordT d) n0 a.args b.args k hp.1 hp.2 (.inl (by omega)) hn0
      refine awps_gs rfl rfl rfl rfl (by decide) rfl (by decide) ?_; refine awps_gs rfl rfl rfl rfl (by decide) rfl (by decide) ?_; refine awps_stp0 rfl rfl (by decide) (stp_pick rfl rfl rfl) ?_; refine awps_nil ?_; refine thenQ_nil ?_; refine awp_condF rfl ?_; refine awp_exit ?_; refine thenQ_exit (thenQ_exit (inQ_hit ?_)); refine thenQ_nil ?_; refine awp_seq ?_; refine awp_region ?_; refine awps_stp0 rfl rfl (by decide) (stp_move (.inl rfl) rfl) ?_; refine awps_stp0 rfl rfl (by decide) (stp_move (.inr rfl) rfl) ?_; refine awps_nil ?_; refine thenQ_nil ?_; refine awp_ret ?_
      -- leaf 0F1F2F3Tg52F
      refine ret0 (noL hL) (.inl rfl) (resAs_tmp rfl (resAs_nil)) ?_ ?_
      · rfl
      exact ⟨int_w (by rw [ordT, if_neg (by simp [c0]), if_neg c1, if_neg c2]; exact hfin), rfl⟩
    try simp only [↓cqA, cqB] at c3
    refine awp_skip ?_; refine thenQ_nil ?_; refine awp_seq ?_; refine awp_seq ?_; refine awp_region ?_; refine awps_stp0 rfl rfl (by decide) (stp_move (.inr rfl) rfl) ?_; refine awps_nil ?_; refine thenQ_nil ?_; refine awp_block ?_
    refine awp_while (a.args.length) (fun k => k ≤ a.args.length ∧ ∀ j, j < k → ordL (ordT d) n0 (a.args.take j) (b.args.take j) = 0) (fun k => ⟨[(2, .ptr 2 0), (3, .ptr 3 0), (5, iv (ordL (ordT d) n0 (a.args.take k) (b.args.take k))), (6, iv (k : Int))], [(2, .box (lift false (tmD a))), (3, .box (lift false (tmD b)))]⟩) (⟨by omega, fun j hj => absurd hj (by omega)⟩) ?_ (fun k hk hp => ?_)
    · exact sub_re (SubT.cons (lk_eq rfl (by first | rfl | simp)) (SubT.cons (lk_eq rfl (by first | rfl | simp)) (SubT.cons (lk_eq rfl (by exact int_imm (by rw [hla, hlb] at c3; simp only [n0, List.take_zero, ordL, c3, if_true, if_false, hla, hlb]))) (SubT.cons (lk_eq rfl (by first | rfl | simp)) (SubT.nil))))) (SubO.cons (ok_eq rfl (by rfl)) (SubO.cons (ok_eq rfl (by rfl)) (SubO.nil))) rfl rfl (noL' (noL hL) _)
    refine awp_seq ?_; refine awp_seq ?_; refine awp_region ?_; refine awps_stp0 rfl rfl (by decide) (stp_move (.inl rfl) rfl) ?_; refine awps_stp0 rfl rfl (by decide) (stp_fieldAddr rfl fo_api_Term_3 rfl) ?_; refine awps_stp0 rfl rfl (by decide) (stp_load rfl tf_S_api_Term rfl rfl rfl rfl rfl) ?_; refine awps_stp0 rfl rfl (by decide) (stp_len_dat rfl sl_S_api_Term rfl) ?_; refine awps_stp0 rfl rfl (by decide) (stp_binI rfl rfl rfl rfl) ?_; refine awps_stp0 rfl rfl (by decide) (stp_move (.inl rfl) rfl) ?_; refine awps_split 52 rfl (fun g52 => ?_) (fun g52 => ?_)
    · try simp only [↓cqA, cqB] at g52
      refine awps_g0 rfl rfl rfl (by decide) rfl (by decide) (stp_move (.inl rfl) rfl) ?_; refine awps_g0 rfl rfl rfl (by decide) rfl (by decide) (stp_binI rfl rfl rfl rfl) ?_; refine awps_stp0 rfl rfl (by decide) (stp_pick rfl rfl rfl) ?_; refine awps_nil ?_; refine thenQ_nil ?_; refine awp_cond rfl (fun c4 => ?_) (fun c4 => ?_)
      · try simp only [↓cqA, cqB] at c4
        have hz : n0 = 0 := by
          by_cases hk00 : 0 < k
          · have := hp.2 0 hk00
            simpa only [List.take_zero, ordL_nil (ordT d) n0 [] [] (.inl rfl)] using this
          · have e : k = 0 := by omega
            rw [e] at c4
            simpa only [List.take_zero, ordL_nil (ordT d) n0 [] [] (.inl rfl)] using c4
        have hll : a.args.length = b.args.length := hn0 hz
        obtain ⟨u, hu⟩ := get_of_lt (l := a.args) (k := k) (by omega)
        obtain ⟨v, hv⟩ := get_of_lt (l := b.args) (k := k) (by omega)
        have hum := List.mem_of_getElem? hu
        have hvm := List.mem_of_getElem? hv
        refine awp_skip ?_; refine thenQ_nil ?_; refine awp_seq ?_; refine awp_block ?_; refine awp_drawG 10 mixed rfl rfl rfl rfl ?_; refine MGo_c0 rfl (by decide) (.run rfl (stp_fieldAddr rfl fo_api_Term_3 rfl)) ?_; refine MGo_c0 rfl (by decide) (.run rfl (stp_load rfl tf_S_api_Term rfl rfl rfl rfl rfl)) ?_; refine MGo_c0 rfl (by decide) (.run rfl (stp_move (.inl rfl) rfl)) ?_; refine MGo_c0 rfl (by decide) (.run rfl (stp_indexAddr rfl sl_S_api_Term rfl rfl (by omega) (tmDs_get hu))) ?_; refine MGo_c0 rfl (by decide) (.run rfl (stp_load_elpa rfl tf_api_Term rfl rfl)) ?_
        refine MGo_c0 rfl (by decide) (.run rfl (stp_fieldAddr rfl fo_api_Term_3 rfl)) ?_; refine MGo_c0 rfl (by decide) (.run rfl (stp_load rfl tf_S_api_Term rfl rfl rfl rfl rfl)) ?_; refine MGo_c0 rfl (by decide) (.run rfl (stp_move (.inl rfl) rfl)) ?_; refine MGo_c0 rfl (by decide) (.run rfl (stp_indexAddr rfl sl_S_api_Term rfl rfl (by omega) (tmDs_get hv))) ?_; refine MGo_c0 rfl (by decide) (.run rfl (stp_load_elpa rfl tf_api_Term rfl rfl)) ?_
        refine MGo_nil ⟨rfl, rfl, ?_⟩; refine awps_call (avs := [_, _]) true rfl rfl rfl (by decide) en_almagestref1_Order rfl rfl (Order_ok d u v (h u hum) (Tm.wfs_mem ha.2.2.2.2 hum) (Tm.wfs_mem hb.2.2.2.2 hvm)) rfl rfl ?_; refine awps_stp0 rfl rfl (by decide) (stp_move (.inr rfl) rfl) ?_; refine awps_nil ?_; refine inQ_nil ?_; refine thenQ_nil ?_; refine awp_region ?_
        refine awps_stp0 rfl rfl (by decide) (stp_move (.inl rfl) rfl) ?_; refine awps_stp0 rfl rfl (by decide) (stp_add rfl rfl rfl (by omega)) ?_; refine awps_stp0 rfl rfl (by decide) (stp_move (.inr rfl) rfl) ?_; refine awps_nil ?_
        have hb5 : ordT d u v = ordL (ordT d) n0 (a.args.take (k + 1)) (b.args.take (k + 1)) := by
          rw [take_snoc hu, take_snoc hv, ordL_snoc _ _ _ _ _ _ (by simp; omega) (fun j hj => by
            by_cases hjk : j < k
            · have := hp.2 j hjk; rwa [List.take_take, List.take_take, Nat.min_eq_left (by omega)]
            · have hj2 : j ≤ k := by rw [List.length_take] at hj; omega
              rw [show j = k by omega, List.take_take, List.take_take, Nat.min_self]; exact c4)]
        refine thenQ_nil ?_; refine ⟨?_, ?_, ?_⟩
        · skip
          omega
        · skip
          refine ⟨by omega, fun j hj => ?_⟩
          by_cases hjk : j < k
          · exact hp.2 j hjk
          · rw [show j = k by omega]; exact c4
        exact sub_re (SubT.cons (lk_eq rfl (by first | rfl | simp)) (SubT.cons (lk_eq rfl (by first | rfl | simp)) (SubT.cons (lk_eq rfl (by exact int_imm hb5)) (SubT.cons (lk_eq rfl (by first | rfl | simp)) (SubT.nil))))) (SubO.cons (ok_eq rfl (by rfl)) (SubO.cons (ok_eq rfl (by rfl)) (SubO.nil))) rfl rfl (noL' (noL hL) _)
      try simp only [↓cqA, cqB] at c4
      have hfin := ordL_fin (ordT d) n0 a.args b.args k hp.1 hp.2 (.inr c4) hn0
      refine awp_exit ?_; refine thenQ_exit (thenQ_exit (inQ_hit ?_)); refine thenQ_nil ?_; refine awp_seq ?_; refine awp_region ?_; refine awps_stp0 rfl rfl (by decide) (stp_move (.inl rfl) rfl) ?_; refine awps_stp0 rfl rfl (by decide) (stp_move (.inr rfl) rfl) ?_; refine awps_nil ?_; refine thenQ_nil ?_; refine awp_ret ?_
      -- leaf 0F1F2F3Fg52T4F
      refine ret0 (noL hL) (.inl rfl) (resAs_tmp rfl (resAs_nil)) ?_ ?_
      · rfl
      exact ⟨int_w (by rw [ordT, if_neg (by simp [c0]), if_neg c1, if_neg c2]; exact hfin), rfl⟩
    try simp only [↓cqA, cqB] at g52
    have hfin := ordL_fin (ordT d) n0 a.args b.args k hp.1 hp.2 (.inl (by omega)) hn0
    refine awps_gs rfl rfl rfl rfl (by decide) rfl (by decide) ?_; refine awps_gs rfl rfl rfl rfl (by decide) rfl (by decide) ?_; refine awps_stp0 rfl rfl (by decide) (stp_pick rfl rfl rfl) ?_; refine awps_nil ?_; refine thenQ_nil ?_; refine awp_condF rfl ?_; refine awp_exit ?_; refine thenQ_exit (thenQ_exit (inQ_hit ?_)); refine thenQ_nil ?_; refine awp_seq ?_; refine awp_region ?_; refine awps_stp0 rfl rfl (by decide) (stp_move (.inl rfl) rfl) ?_; refine awps_stp0 rfl rfl (by decide) (stp_move (.inr rfl) rfl) ?_; refine awps_nil ?_; refine thenQ_nil ?_; refine awp_ret ?_
    -- leaf 0F1F2F3Fg52F
    refine ret0 (noL hL) (.inl rfl) (resAs_tmp rfl (resAs_nil)) ?_ ?_
    · rfl
    exact ⟨int_w (by rw [ordT, if_neg (by simp [c0]), if_neg c1, if_neg c2]; exact hfin), rfl⟩
theorem data_inj (a b : ByteArray) : a.data = b.data ↔ a = b := ⟨fun h => by cases a; cases b; simpa using h, fun h => by rw [h]⟩
def eqL (f : Tm → Tm → Bool) : List Tm → List Tm → Bool
  | [], [] => true
  | a :: l, b :: m => f a b && eqL f l m
  | _, _ => false
def eqT : Nat → Tm → Tm → Bool
  | 0, _, _ => false
  | d + 1, a, b => decide (a.kind = b.kind) && decide (a.name.data.toList = b.name.data.toList) && decide (a.n = b.n) && eqL (eqT d) a.args b.args
theorem eqL_len (f : Tm → Tm → Bool) : ∀ {l m : List Tm}, l.length ≠ m.length → eqL f l m = false
  | [], [], h => absurd rfl h
  | a :: l, b :: m, h => by simp only [eqL, eqL_len f (l := l) (m := m) (by simpa using h), Bool.and_false]
  | [], _ :: _, _ => rfl
  | _ :: _, [], _ => rfl
theorem eqL_true (f : Tm → Tm → Bool) : ∀ {l m : List Tm}, l.length = m.length → (∀ (j : Nat) (a b : Tm), l[j]? = some a → m[j]? = some b → f a b = true) → eqL f l m = true
  | [], [], _, _ => rfl
  | a :: l, b :: m, h, k => by
    simp only [eqL, Bool.and_eq_true]
    exact ⟨k 0 a b (by simp) (by simp), eqL_true f (by simpa using h) fun j a b h1 h2 => k (j + 1) a b (by simpa using h1) (by simpa using h2)⟩
theorem eqL_false (f : Tm → Tm → Bool) : ∀ {l m : List Tm} (j : Nat) {a b : Tm}, l[j]? = some a → m[j]? = some b → f a b = false → eqL f l m = false
  | [], _, j, a, b, h, _, _ => by simp at h
  | _ :: _, [], j, a, b, _, h, _ => by simp at h
  | x :: l, y :: m, 0, a, b, h1, h2, h => by
    simp only [List.getElem?_cons_zero, Option.some.injEq] at h1 h2
    subst h1; subst h2; simp [eqL, h]
  | x :: l, y :: m, j + 1, a, b, h1, h2, h => by
    simp [eqL, eqL_false f (l := l) (m := m) j (by simpa using h1) (by simpa using h2) h]
def EqC (d : Nat) : Prop := ∀ a b : Tm, dle d a → a.wf → b.wf → PF 23 [tmA false a, tmA false b] (bv (eqT d a b))
theorem EqTerms_ok (d : Nat) (ih : EqC d) (x y : List Tm) (hx : ∀ u, u ∈ x → dle d u) (wx : Tm.wfs x) (wy : Tm.wfs y) (lx : x.length ≤ 140737488351232) (ly : y.length ≤ 140737488351232) : PF 75 [.dat false 4 (tmDs x), .dat false 4 (tmDs y)] (bv (eqL (eqT d) x y)) := by
  have hlx := tmDs_length x
  have hly := tmDs_length y
  refine AC_intro Tryz.func75 rfl Tryz.ntmps75 (Nat.le_of_ble_eq_true rfl) fun c hL hQ hDD => ?_; refine awp_seq ?_; refine awp_region ?_; refine awps_stp0 rfl rfl (by decide) (stp_move (.inr rfl) rfl) ?_; refine awps_nil ?_; refine thenQ_nil ?_; refine awp_seq ?_; refine awp_seq ?_; refine awp_region ?_; refine awps_stp0 rfl rfl (by decide) (stp_move (.inl rfl) rfl) ?_; refine awps_stp0 rfl rfl (by decide) (stp_len_dat rfl sl_S_api_Term rfl) ?_; refine awps_stp0 rfl rfl (by decide) (stp_move (.inl rfl) rfl) ?_; refine awps_stp0 rfl rfl (by decide) (stp_len_dat rfl sl_S_api_Term rfl) ?_
  refine awps_stp0 rfl rfl (by decide) (stp_binI rfl rfl rfl rfl) ?_; refine awps_nil ?_; refine thenQ_nil ?_; refine awp_cond rfl (fun c0 => ?_) (fun c0 => ?_)
  · try simp only [↓cqA, cqB] at c0
    refine awp_seq ?_; refine awp_region ?_; refine awps_stp0 rfl rfl (by decide) (stp_move (.inr rfl) rfl) ?_; refine awps_nil ?_; refine thenQ_nil ?_; refine awp_ret ?_; refine thenQ_ret (?_)
    -- leaf 0T
    refine ret0 (noL hL) (.inl rfl) (resAs_tmp rfl (resAs_nil)) ?_ ?_
    · rfl
    exact ⟨bool_w (eqL_len _ (by omega)).symm, rfl⟩
  try simp only [↓cqA, cqB] at c0
  refine awp_skip ?_; refine thenQ_nil ?_; refine awp_seq ?_; refine awp_seq ?_; refine awp_region ?_; refine awps_stp0 rfl rfl (by decide) (stp_move (.inr rfl) rfl) ?_; refine awps_nil ?_; refine thenQ_nil ?_; refine awp_block ?_; refine awp_while (x.length) (fun k => k ≤ x.length ∧ ∀ j a b, j < k → x[j]? = some a → y[j]? = some b → eqT d a b = true) (fun k => ⟨[(0, .dat false 4 (tmDs x)), (1, .dat false 4 (tmDs y)), (5, iv (k : Int))], []⟩) (⟨by omega, fun j a b hj => absurd hj (by omega)⟩) ?_ (fun k hk hp => ?_)
  · exact sub_re (SubT.cons (lk_eq rfl (by first | rfl | simp)) (SubT.cons (lk_eq rfl (by first | rfl | simp)) (SubT.cons (lk_eq rfl (by first | rfl | simp)) (SubT.nil)))) (SubO.nil) rfl rfl (noL' (noL hL) _)
  refine awp_seq ?_; refine awp_seq ?_; refine awp_region ?_; refine awps_stp0 rfl rfl (by decide) (stp_move (.inl rfl) rfl) ?_; refine awps_stp0 rfl rfl (by decide) (stp_move (.inl rfl) rfl) ?_; refine awps_stp0 rfl rfl (by decide) (stp_len_dat rfl sl_S_api_Term rfl) ?_; refine awps_stp0 rfl rfl (by decide) (stp_binI rfl rfl rfl rfl) ?_; refine awps_nil ?_; refine thenQ_nil ?_; refine awp_cond rfl (fun c1 => ?_) (fun c1 => ?_)
  · try simp only [↓cqA, cqB] at c1
    obtain ⟨u, hu⟩ := get_of_lt (l := x) (k := k) (by omega)
    obtain ⟨v, hv⟩ := get_of_lt (l := y) (k := k) (by omega)
    refine awp_skip ?_; refine thenQ_nil ?_; refine awp_seq ?_; refine awp_block ?_; refine awp_seq ?_; refine awp_drawG 8 mixed rfl rfl rfl rfl ?_; refine MGo_c0 rfl (by decide) (.run rfl (stp_move (.inl rfl) rfl)) ?_; refine MGo_c0 rfl (by decide) (.run rfl (stp_move (.inl rfl) rfl)) ?_; refine MGo_c0 rfl (by decide) (.run rfl (stp_indexAddr rfl sl_S_api_Term rfl rfl (by omega) (tmDs_get hu))) ?_; refine MGo_c0 rfl (by decide) (.run rfl (stp_load_elpa rfl tf_api_Term rfl rfl)) ?_
    refine MGo_c0 rfl (by decide) (.run rfl (stp_move (.inl rfl) rfl)) ?_; refine MGo_c0 rfl (by decide) (.run rfl (stp_move (.inl rfl) rfl)) ?_; refine MGo_c0 rfl (by decide) (.run rfl (stp_indexAddr rfl sl_S_api_Term rfl rfl (by omega) (tmDs_get hv))) ?_; refine MGo_c0 rfl (by decide) (.run rfl (stp_load_elpa rfl tf_api_Term rfl rfl)) ?_
    refine MGo_nil ⟨rfl, rfl, ?_⟩; refine awps_call (avs := [_, _]) true rfl rfl rfl (by decide) en_almagestref0_EqTerm rfl rfl (ih u v (hx u (List.mem_of_getElem? hu)) (Tm.wfs_get wx hu) (Tm.wfs_get wy hv)) rfl rfl ?_; refine awps_stp0 rfl rfl (by decide) (stp_not rfl rfl) ?_; refine awps_nil ?_; refine thenQ_nil ?_; refine awp_cond rfl (fun c2 => ?_) (fun c2 => ?_)
    · try simp only [↓cqA, cqB] at c2
      refine awp_seq ?_; refine awp_region ?_; refine awps_stp0 rfl rfl (by decide) (stp_move (.inr rfl) rfl) ?_; refine awps_nil ?_; refine thenQ_nil ?_; refine awp_ret ?_; refine inQ_ret (thenQ_ret (thenQ_ret (inQ_ret (thenQ_ret (?_)))))
      -- leaf 0F1T2T
      refine ret0 (noL hL) (.inl rfl) (resAs_tmp rfl (resAs_nil)) ?_ ?_
      · rfl
      exact ⟨bool_w (eqL_false _ k hu hv c2).symm, rfl⟩
    try simp only [↓cqA, cqB] at c2
    refine awp_skip ?_; refine inQ_nil ?_; refine thenQ_nil ?_; refine awp_region ?_; refine awps_stp0 rfl rfl (by decide) (stp_move (.inl rfl) rfl) ?_; refine awps_stp0 rfl rfl (by decide) (stp_add rfl rfl rfl (by omega)) ?_; refine awps_stp0 rfl rfl (by decide) (stp_move (.inr rfl) rfl) ?_; refine awps_nil ?_; refine thenQ_nil ?_; refine ⟨?_, ?_, ?_⟩
    · skip
      omega
    · skip
      refine ⟨by omega, fun j a b hj ha hb => ?_⟩
      by_cases hjk : j < k
      · exact hp.2 j a b hjk ha hb
      · rw [show j = k by omega] at ha hb; rw [hu] at ha; rw [hv] at hb; cases ha; cases hb; exact c2
    exact sub_re (SubT.cons (lk_eq rfl (by first | rfl | simp)) (SubT.cons (lk_eq rfl (by first | rfl | simp)) (SubT.cons (lk_eq rfl (by first | rfl | simp)) (SubT.nil)))) (SubO.nil) rfl rfl (noL' (noL hL) _)
  try simp only [↓cqA, cqB] at c1
  refine awp_exit ?_; refine thenQ_exit (thenQ_exit (inQ_hit ?_)); refine thenQ_nil ?_; refine awp_seq ?_; refine awp_region ?_; refine awps_stp0 rfl rfl (by decide) (stp_move (.inr rfl) rfl) ?_; refine awps_nil ?_; refine thenQ_nil ?_; refine awp_ret ?_
  -- leaf 0F1F
  refine ret0 (noL hL) (.inl rfl) (resAs_tmp rfl (resAs_nil)) ?_ ?_
  · rfl
  exact ⟨bool_w (eqL_true _ (by omega) (fun j a b ha hb => hp.2 j a b (by have := (List.getElem?_eq_some_iff.1 ha).1; omega) ha hb)).symm, rfl⟩
theorem EqTerm_ok : ∀ d : Nat, EqC d
  | 0 => fun a b h _ _ => h.elim
  | d + 1 => fun a b h ha hb => by
    have h1 := ha.2.2.2.1
    have h2 := hb.2.2.2.1
    refine AC_intro Tryz.func23 rfl Tryz.ntmps23 (Nat.le_of_ble_eq_true rfl) fun c hL hQ hDD => ?_; refine awp_seq ?_; refine awp_region ?_; refine awps_stp1 rfl rfl (by decide) (stp_box 2 rfl rfl rfl) rfl ?_; refine awps_stp1 rfl rfl (by decide) (stp_box 3 rfl rfl rfl) rfl ?_; refine awps_stp0 rfl rfl (by decide) (stp_move (.inr rfl) rfl) ?_; refine awps_nil ?_; refine thenQ_nil ?_; refine awp_seq ?_; refine awp_region ?_; refine awps_stp0 rfl rfl (by decide) (stp_fieldAddr rfl fo_api_Term_0 rfl) ?_; refine awps_stp0 rfl rfl (by decide) (stp_load rfl tf_int rfl rfl rfl rfl rfl) ?_
    refine awps_stp0 rfl rfl (by decide) (stp_fieldAddr rfl fo_api_Term_0 rfl) ?_; refine awps_stp0 rfl rfl (by decide) (stp_load rfl tf_int rfl rfl rfl rfl rfl) ?_; refine awps_stp0 rfl rfl (by decide) (stp_binI rfl rfl rfl rfl) ?_; refine awps_stp0 rfl rfl (by decide) (stp_move (.inl rfl) rfl) ?_; refine awps_split 10 rfl (fun g10 => ?_) (fun g10 => ?_)
    · try simp only [↓cqA, cqB] at g10
      refine awps_g0 rfl rfl rfl (by decide) rfl (by decide) (stp_fieldAddr rfl fo_api_Term_1 rfl) ?_; refine awps_g0 rfl rfl rfl (by decide) rfl (by decide) (stp_load rfl tf_string rfl rfl rfl rfl rfl) ?_; refine awps_g0 rfl rfl rfl (by decide) rfl (by decide) (stp_fieldAddr rfl fo_api_Term_1 rfl) ?_; refine awps_g0 rfl rfl rfl (by decide) rfl (by decide) (stp_load rfl tf_string rfl rfl rfl rfl rfl) ?_
      refine awps_g0 rfl rfl rfl (by decide) rfl (by decide) (stp_binS rfl rfl rfl rfl) ?_; refine awps_stp0 rfl rfl (by decide) (stp_pick rfl rfl rfl) ?_; refine awps_stp0 rfl rfl (by decide) (stp_move (.inl rfl) rfl) ?_; refine awps_split 17 rfl (fun g17 => ?_) (fun g17 => ?_)
      · try simp only [↓cqA, cqB] at g17
        refine awps_g0 rfl rfl rfl (by decide) rfl (by decide) (stp_fieldAddr rfl fo_api_Term_2 rfl) ?_; refine awps_g0 rfl rfl rfl (by decide) rfl (by decide) (stp_load rfl tf_int rfl rfl rfl rfl rfl) ?_; refine awps_g0 rfl rfl rfl (by decide) rfl (by decide) (stp_fieldAddr rfl fo_api_Term_2 rfl) ?_; refine awps_g0 rfl rfl rfl (by decide) rfl (by decide) (stp_load rfl tf_int rfl rfl rfl rfl rfl) ?_
        refine awps_g0 rfl rfl rfl (by decide) rfl (by decide) (stp_binI rfl rfl rfl rfl) ?_; refine awps_stp0 rfl rfl (by decide) (stp_pick rfl rfl rfl) ?_; refine awps_stp0 rfl rfl (by decide) (stp_move (.inl rfl) rfl) ?_; refine awps_split 24 rfl (fun g24 => ?_) (fun g24 => ?_)
        · try simp only [↓cqA, cqB] at g24
          refine awps_g0 rfl rfl rfl (by decide) rfl (by decide) (stp_fieldAddr rfl fo_api_Term_3 rfl) ?_; refine awps_g0 rfl rfl rfl (by decide) rfl (by decide) (stp_load rfl tf_S_api_Term rfl rfl rfl rfl rfl) ?_; refine awps_g0 rfl rfl rfl (by decide) rfl (by decide) (stp_fieldAddr rfl fo_api_Term_3 rfl) ?_; refine awps_g0 rfl rfl rfl (by decide) rfl (by decide) (stp_load rfl tf_S_api_Term rfl rfl rfl rfl rfl) ?_
          refine awps_g0 rfl rfl rfl (by decide) rfl (by decide) (stp_call (avs := [_, _]) true rfl en_almagestref0_EqTerms rfl rfl (EqTerms_ok d (EqTerm_ok d) a.args b.args h ha.2.2.2.2 hb.2.2.2.2 (by omega) (by omega)) (fun _ => rfl) rfl) ?_; refine awps_stp0 rfl rfl (by decide) (stp_pick rfl rfl rfl) ?_; refine awps_stp0 rfl rfl (by decide) (stp_move (.inr rfl) rfl) ?_; refine awps_nil ?_; refine thenQ_nil ?_; refine awp_ret ?_
          -- leaf g10Tg17Tg24T
          refine ret0 (noL hL) (.inl rfl) (resAs_tmp rfl (resAs_nil)) ?_ ?_
          · rfl
          refine ⟨bool_w ?_, rfl⟩
          simp_all [eqT, data_inj]
        try simp only [↓cqA, cqB] at g24
        refine awps_gs rfl rfl rfl rfl (by decide) rfl (by decide) ?_; refine awps_gs rfl rfl rfl rfl (by decide) rfl (by decide) ?_; refine awps_gs rfl rfl rfl rfl (by decide) rfl (by decide) ?_; refine awps_gs rfl rfl rfl rfl (by decide) rfl (by decide) ?_; refine awps_gs rfl rfl rfl rfl (by decide) rfl (by decide) ?_; refine awps_stp0 rfl rfl (by decide) (stp_pick rfl rfl rfl) ?_; refine awps_stp0 rfl rfl (by decide) (stp_move (.inr rfl) rfl) ?_; refine awps_nil ?_; refine thenQ_nil ?_; refine awp_ret ?_
        -- leaf g10Tg17Tg24F
        refine ret0 (noL hL) (.inl rfl) (resAs_tmp rfl (resAs_nil)) ?_ ?_
        · rfl
        refine ⟨bool_w ?_, rfl⟩
        simp_all [eqT, data_inj]
      try simp only [↓cqA, cqB] at g17
      refine awps_gs rfl rfl rfl rfl (by decide) rfl (by decide) ?_; refine awps_gs rfl rfl rfl rfl (by decide) rfl (by decide) ?_; refine awps_gs rfl rfl rfl rfl (by decide) rfl (by decide) ?_; refine awps_gs rfl rfl rfl rfl (by decide) rfl (by decide) ?_; refine awps_gs rfl rfl rfl rfl (by decide) rfl (by decide) ?_; refine awps_stp0 rfl rfl (by decide) (stp_pick rfl rfl rfl) ?_
      refine awps_stp0 rfl rfl (by decide) (stp_move (.inl rfl) rfl) ?_; refine awps_gs rfl rfl rfl rfl (by decide) rfl (by decide) ?_; refine awps_gs rfl rfl rfl rfl (by decide) rfl (by decide) ?_; refine awps_gs rfl rfl rfl rfl (by decide) rfl (by decide) ?_; refine awps_gs rfl rfl rfl rfl (by decide) rfl (by decide) ?_; refine awps_gs rfl rfl rfl rfl (by decide) rfl (by decide) ?_; refine awps_stp0 rfl rfl (by decide) (stp_pick rfl rfl rfl) ?_; refine awps_stp0 rfl rfl (by decide) (stp_move (.inr rfl) rfl) ?_; refine awps_nil ?_; refine thenQ_nil ?_; refine awp_ret ?_
      -- leaf g10Tg17F
      refine ret0 (noL hL) (.inl rfl) (resAs_tmp rfl (resAs_nil)) ?_ ?_
      · rfl
      refine ⟨bool_w ?_, rfl⟩
      simp_all [eqT, data_inj]
    try simp only [↓cqA, cqB] at g10
    refine awps_gs rfl rfl rfl rfl (by decide) rfl (by decide) ?_; refine awps_gs rfl rfl rfl rfl (by decide) rfl (by decide) ?_; refine awps_gs rfl rfl rfl rfl (by decide) rfl (by decide) ?_; refine awps_gs rfl rfl rfl rfl (by decide) rfl (by decide) ?_; refine awps_gs rfl rfl rfl rfl (by decide) rfl (by decide) ?_; refine awps_stp0 rfl rfl (by decide) (stp_pick rfl rfl rfl) ?_
    refine awps_stp0 rfl rfl (by decide) (stp_move (.inl rfl) rfl) ?_; refine awps_gs rfl rfl rfl rfl (by decide) rfl (by decide) ?_; refine awps_gs rfl rfl rfl rfl (by decide) rfl (by decide) ?_; refine awps_gs rfl rfl rfl rfl (by decide) rfl (by decide) ?_; refine awps_gs rfl rfl rfl rfl (by decide) rfl (by decide) ?_; refine awps_gs rfl rfl rfl rfl (by decide) rfl (by decide) ?_
    refine awps_stp0 rfl rfl (by decide) (stp_pick rfl rfl rfl) ?_; refine awps_stp0 rfl rfl (by decide) (stp_move (.inl rfl) rfl) ?_; refine awps_gs rfl rfl rfl rfl (by decide) rfl (by decide) ?_; refine awps_gs rfl rfl rfl rfl (by decide) rfl (by decide) ?_; refine awps_gs rfl rfl rfl rfl (by decide) rfl (by decide) ?_; refine awps_gs rfl rfl rfl rfl (by decide) rfl (by decide) ?_
    refine awps_gs rfl rfl rfl rfl (by decide) rfl (by decide) ?_; refine awps_stp0 rfl rfl (by decide) (stp_pick rfl rfl rfl) ?_; refine awps_stp0 rfl rfl (by decide) (stp_move (.inr rfl) rfl) ?_; refine awps_nil ?_; refine thenQ_nil ?_; refine awp_ret ?_
    -- leaf g10F
    refine ret0 (noL hL) (.inl rfl) (resAs_tmp rfl (resAs_nil)) ?_ ?_
    · rfl
    refine ⟨bool_w ?_, rfl⟩
    simp_all [eqT, data_inj]
end Go.Proofs.YtdecgkhdbfgldaaGreat

set_option linter.unusedVariables false
set_option linter.unusedSimpArgs false
set_option maxRecDepth 8000
namespace Go.Proofs.YtdecgkhdbfgldaaGreat
open Go
theorem wgtL_ge' {α : Type} (f : α → Int) : ∀ (n : Int) (l : List α), (∀ t, t ∈ l → 0 ≤ f t) → n ≤ wgtL f n l
  | n, [], _ => by simp [wgtL]
  | n, a :: l, h => by
    simp only [wgtL]
    split
    · have := wgtL_ge' f (n + f a) l (fun t ht => h t (by simp [ht]))
      have := h a (by simp); omega
    · omega
def wT (t : Tm) : Int := wgt 30 t
theorem wT_range (t : Tm) (h : t.wf) : 0 ≤ wT t ∧ wT t ≤ 4362862138900000 := by
  have h1 := wgt_ge 30 t
  have h2 := wgt_le 30 t h
  simp only [wT]; omega
theorem TermWeight30_ok (u : Tm) (h : u.wf) : PF 115 [tmA false u, iv 30] (iv (wT u)) := TermWeight_ok 30 (by omega) _ rfl u h
end Go.Proofs.YtdecgkhdbfgldaaGreat

set_option linter.unusedVariables false
set_option linter.unusedSimpArgs false
set_option maxRecDepth 8000
namespace Go.Proofs.YtdecgkhdbfgldaaGreat
open Go
theorem cmpI_zero (a b : Int) : cmpI a b = 0 ↔ a = b := by
  simp only [cmpI]; split
  · constructor
    · intro h; cases h
    · intro h; omega
  · split
    · constructor
      · intro h; cases h
      · intro h; omega
    · constructor
      · intro _; omega
      · intro _; rfl
theorem cmpS_zero (a b : ByteArray) : cmpS a b = 0 ↔ a = b := by
  rw [cmpS_eq]
  split
  · rename_i h
    constructor
    · intro h; cases h
    · rintro rfl
      have irr : ∀ l : List UInt8, Op.bytesLess l l = false := fun l => by
        induction l with
        | nil => rfl
        | cons x l ih => simp [Op.bytesLess, ih]
      rw [ltS, irr] at h; cases h
  · split
    · rename_i h; simp [h]
    · rename_i h; simp [h]
theorem cmpL_zero (f : Tm → Tm → Int) (g : Tm → Tm → Bool) : ∀ (l m : List Tm), (∀ u v, u ∈ l → (f u v = 0 ↔ g u v = true)) → (cmpL f l m = 0 ↔ eqL g l m = true)
  | [], [], _ => by simp [cmpL, eqL]
  | [], _ :: _, _ => by simp [cmpL, eqL]
  | _ :: _, [], _ => by simp [cmpL, eqL]
  | a :: l, b :: m, h => by
    have h1 := h a b (by simp)
    have ih := cmpL_zero f g l m (fun u v hu => h u v (by simp [hu]))
    simp only [cmpL, eqL, Bool.and_eq_true, ← h1]
    split
    · rename_i h0; simp [h0, ih]
    · rename_i h0; simp [h0]
theorem orL_zero (a b c d : Int) : orL [a, b, c, d] = 0 ↔ a = 0 ∧ b = 0 ∧ c = 0 ∧ d = 0 := by
  simp only [orL]; split
  · split
    · split
      · split
        · simp_all
        · simp_all
      · simp_all
    · simp_all
  · simp_all
theorem cmpT_zero : ∀ (d : Nat) (a b : Tm), dle d a → (cmpT d a b = 0 ↔ eqT d a b = true)
  | 0, a, b, h => h.elim
  | d + 1, a, b, h => by
    have hL := cmpL_zero (cmpT d) (eqT d) a.args b.args (fun u v hu => cmpT_zero d u v (h u hu))
    have hz := orL_zero (cmpI a.kind b.kind) (cmpI a.n b.n) (cmpI a.args.length b.args.length) (cmpS a.name b.name)
    simp only [cmpT, eqT, Bool.and_eq_true, decide_eq_true_eq, Array.toList_inj, data_inj]
    split
    · rename_i h0
      obtain ⟨h1, h2, h3, h4⟩ := hz.1 h0
      rw [cmpI_zero] at h1 h2
      rw [cmpS_zero] at h4
      rw [hL]
      exact ⟨fun h => ⟨⟨⟨h1, h4⟩, h2⟩, h⟩, fun h => h.2⟩
    · rename_i h0
      constructor
      · intro h; exact absurd h h0
      · rintro ⟨⟨⟨h1, h4⟩, h2⟩, h3⟩
        exfalso
        apply h0
        rw [hz, cmpI_zero, cmpI_zero, cmpI_zero, cmpS_zero]
        refine ⟨h1, h2, ?_, h4⟩
        by_cases hl : a.args.length = b.args.length
        · rw [hl]
        · rw [eqL_len _ hl] at h3; cases h3
end Go.Proofs.YtdecgkhdbfgldaaGreat
