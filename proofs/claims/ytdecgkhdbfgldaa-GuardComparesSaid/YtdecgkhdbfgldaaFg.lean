/- Walks: the page's own words: variables, ground terms, order, equality. -/
import Derived.Test.YtdecgkhdbfgldaaFf
set_option linter.unusedVariables false
set_option linter.unusedSimpArgs false
set_option maxRecDepth 8000
namespace Go.Proofs.Ytdecgkhdbfgldaa
open Go

def varsR : Nat → Tm → List ByteArray
  | 0, _ => []
  | d + 1, t => if t.kind = 1 then [t.name] else t.args.foldl (fun acc u => namesR acc (varsR d u)) []
theorem varsL_len (d : Nat) (ih : ∀ t, (varsR d t).length ≤ nodes d t) : ∀ (l : List Tm) (acc : List ByteArray), (l.foldl (fun acc u => namesR acc (varsR d u)) acc).length ≤ acc.length + (l.map (nodes d)).sum
  | [], acc => by simp
  | a :: l, acc => by
    have h1 := varsL_len d ih l (namesR acc (varsR d a))
    have h2 := namesR_len (varsR d a) acc
    have h3 := ih a
    simp only [List.foldl_cons, List.map_cons, List.sum_cons]; omega
theorem varsR_len : ∀ (d : Nat) (t : Tm), (varsR d t).length ≤ nodes d t
  | 0, t => by simp [varsR, nodes]
  | d + 1, t => by
    have := varsL_len d (varsR_len d) t.args []
    simp only [varsR, nodes]
    split
    · simp
    · simp only [List.length_nil] at this; omega

theorem rVars_ok : ∀ (d : Nat) (t : Tm), dle d t → t.wf → nodes d t ≤ 1000000 → PF 52 [tmA false t] (.dat true 1 (strDs (varsR d t)))
  | 0, t, h, _, _ => h.elim
  | d + 1, t, h, ht, hn => by
    have hlen := tmDs_length t.args
    have hal := ht.2.2.2.1
    simp only [nodes] at hn
    refine AC_intro Try.func52 rfl Try.ntmps52 (Nat.le_of_ble_eq_true rfl) fun c hL => ?_
    refine awp_seq ?_
    refine awp_region ?_
    refine awps_stp1 rfl rfl (by decide) (stp_box 1 rfl rfl rfl) rfl ?_
    refine awps_stp0 rfl rfl (by decide) (stp_move (.inr rfl) rfl) ?_
    refine awps_nil ?_
    refine thenQ_nil ?_
    refine awp_seq ?_
    refine awp_seq ?_
    refine awp_region ?_
    first | refine awps_stp0 rfl rfl (by decide) (stp_fieldAddr rfl fo_api_Term_0 rfl) ?_ | refine awps_stp0 rfl rfl (by decide) (stp_fieldAddr_elp rfl fo_api_Term_0 rfl) ?_
    first | refine awps_stp0 rfl rfl (by decide) (stp_load rfl tf_int rfl rfl rfl rfl rfl) ?_ | refine awps_stp0 rfl rfl (by decide) (stp_load_elp1 rfl tf_int rfl) ?_ | refine awps_stp0 rfl rfl (by decide) (stp_load_elpn rfl tf_int rfl rfl rfl) ?_
    refine awps_stp0 rfl rfl (by decide) (stp_binI rfl rfl rfl rfl) ?_
    refine awps_nil ?_
    refine thenQ_nil ?_
    refine awp_cond rfl (fun c0 => ?_) (fun c0 => ?_)
    · try simp only [↓str_beq_t, ↓str_beq_f, decide_eq_true_eq, decide_eq_false_iff_not, Bool.not_eq_true', Bool.not_eq_false', Int.not_lt, Int.not_le, beq_iff_eq, beq_eq_false_iff_ne, bne_iff_ne, bne_eq_false_iff_eq, ne_eq] at c0
      refine awp_seq ?_
      refine awp_region ?_
      first | refine awps_stp0 rfl rfl (by decide) (stp_fieldAddr rfl fo_api_Term_1 rfl) ?_ | refine awps_stp0 rfl rfl (by decide) (stp_fieldAddr_elp rfl fo_api_Term_1 rfl) ?_
      first | refine awps_stp0 rfl rfl (by decide) (stp_load rfl tf_string rfl rfl rfl rfl rfl) ?_ | refine awps_stp0 rfl rfl (by decide) (stp_load_elp1 rfl tf_string rfl) ?_ | refine awps_stp0 rfl rfl (by decide) (stp_load_elpn rfl tf_string rfl rfl rfl) ?_
      refine awps_stp1 rfl rfl (by decide) (stp_buildSlice 10 rfl sl_S_string zv_string rfl rfl (by decide) (by decide) (by decide) rfl rfl rfl) rfl ?_
      refine awps_stp0 rfl rfl (by decide) (stp_move (.inr rfl) rfl) ?_
      refine awps_rowd 10 true 1 rfl rfl rfl rfl ?_
      refine awps_sub (sub_freeze (l := 10) rfl (by decide) (noL hL _) rfl rfl) ?_
      refine awps_nil ?_
      refine thenQ_nil ?_
      refine awp_ret ?_
      refine thenQ_ret (?_)
      -- leaf 0T
      refine ret0 (noL hL) (.inl rfl) (resAs_tmp rfl (resAs_nil)) ?_ ?_
      · rfl
      exact ⟨by rw [varsR, if_pos c0]; rfl, rfl⟩
    try simp only [↓str_beq_t, ↓str_beq_f, decide_eq_true_eq, decide_eq_false_iff_not, Bool.not_eq_true', Bool.not_eq_false', Int.not_lt, Int.not_le, beq_iff_eq, beq_eq_false_iff_ne, bne_iff_ne, bne_eq_false_iff_eq, ne_eq] at c0
    refine awp_skip ?_
    refine thenQ_nil ?_
    refine awp_seq ?_
    refine awp_region ?_
    refine awps_stp0 rfl rfl (by decide) (stp_move (.inr rfl) rfl) ?_
    refine awps_nil ?_
    refine thenQ_nil ?_
    refine awp_seq ?_
    refine awp_seq ?_
    refine awp_region ?_
    refine awps_stp0 rfl rfl (by decide) (stp_move (.inr rfl) rfl) ?_
    refine awps_nil ?_
    refine thenQ_nil ?_
    refine awp_block ?_
    refine awp_while (t.args.length) (fun k => k ≤ t.args.length) (fun k => ⟨[(1, .ptr 1 0), (3, .dat true 1 (strDs ((t.args.take k).foldl (fun acc u => namesR acc (varsR d u)) []))), (4, iv (k : Int))], [(1, .box (lift false (tmD t)))]⟩) (by omega) ?_ (fun k hk hp => ?_)
    · exact Sub.trans (sub_nil_dat (t := 3) 1 true rfl) (sub_re (SubT.cons (lk_eq rfl (by first | rfl | simp)) (SubT.cons (lk_eq rfl (by first | rfl | simp)) (SubT.cons (lk_eq rfl (by first | rfl | simp)) (SubT.nil)))) (SubO.cons (ok_eq rfl (by rfl)) (SubO.nil)) rfl rfl (noL' (noL hL) _))
    refine awp_seq ?_
    refine awp_seq ?_
    refine awp_region ?_
    refine awps_stp0 rfl rfl (by decide) (stp_move (.inl rfl) rfl) ?_
    first | refine awps_stp0 rfl rfl (by decide) (stp_fieldAddr rfl fo_api_Term_3 rfl) ?_ | refine awps_stp0 rfl rfl (by decide) (stp_fieldAddr_elp rfl fo_api_Term_3 rfl) ?_
    first | refine awps_stp0 rfl rfl (by decide) (stp_load rfl tf_S_api_Term rfl rfl rfl rfl rfl) ?_ | refine awps_stp0 rfl rfl (by decide) (stp_load_elp1 rfl tf_S_api_Term rfl) ?_ | refine awps_stp0 rfl rfl (by decide) (stp_load_elpn rfl tf_S_api_Term rfl rfl rfl) ?_
    first | refine awps_stp0 rfl rfl (by decide) (stp_len_dat rfl sl_S_api_Term rfl) ?_ | refine awps_stp0 rfl rfl (by decide) (stp_len_rowd rfl sl_S_api_Term rfl rfl) ?_ | refine awps_stp0 rfl rfl (by decide) (stp_len_nil rfl sl_S_api_Term rfl) ?_
    refine awps_stp0 rfl rfl (by decide) (stp_binI rfl rfl rfl rfl) ?_
    refine awps_nil ?_
    refine thenQ_nil ?_
    refine awp_cond rfl (fun c1 => ?_) (fun c1 => ?_)
    · try simp only [↓str_beq_t, ↓str_beq_f, decide_eq_true_eq, decide_eq_false_iff_not, Bool.not_eq_true', Bool.not_eq_false', Int.not_lt, Int.not_le, beq_iff_eq, beq_eq_false_iff_ne, bne_iff_ne, bne_eq_false_iff_eq, ne_eq] at c1
      obtain ⟨u, hu⟩ := get_of_lt (l := t.args) (k := k) (by omega)
      have hum := List.mem_of_getElem? hu
      have hs1 := varsL_len d (varsR_len d) (t.args.take k) []
      have hs2 := sum_split (nodes d) hu
      have hs3 := varsR_len d u
      simp only [List.length_nil] at hs1
      refine awp_skip ?_
      refine thenQ_nil ?_
      refine awp_seq ?_
      refine awp_block ?_
      refine awp_region ?_
      refine awps_stp0 rfl rfl (by decide) (stp_move (.inl rfl) rfl) ?_
      first | refine awps_stp0 rfl rfl (by decide) (stp_fieldAddr rfl fo_api_Term_3 rfl) ?_ | refine awps_stp0 rfl rfl (by decide) (stp_fieldAddr_elp rfl fo_api_Term_3 rfl) ?_
      first | refine awps_stp0 rfl rfl (by decide) (stp_load rfl tf_S_api_Term rfl rfl rfl rfl rfl) ?_ | refine awps_stp0 rfl rfl (by decide) (stp_load_elp1 rfl tf_S_api_Term rfl) ?_ | refine awps_stp0 rfl rfl (by decide) (stp_load_elpn rfl tf_S_api_Term rfl rfl rfl) ?_
      refine awps_stp0 rfl rfl (by decide) (stp_move (.inl rfl) rfl) ?_
      first | refine awps_stp0 rfl rfl (by decide) (stp_indexAddr rfl sl_S_api_Term rfl rfl (by omega) (tmDs_get hu)) ?_ | refine awps_stp0 rfl rfl (by decide) (stp_indexAddr_rowd rfl sl_S_api_Term rfl rfl rfl (by omega) (tmDs_get hu)) ?_ | refine awps_stp0 rfl rfl (by decide) (stp_indexAddr_row rfl sl_S_api_Term rfl rfl rfl (by omega) (tmDs_get hu) (by decide)) ?_
      first | refine awps_stp0 rfl rfl (by decide) (stp_load_all rfl tf_api_Term rfl rfl rfl rfl) ?_ | refine awps_stp0 rfl rfl (by decide) (stp_load rfl tf_api_Term rfl rfl rfl rfl rfl) ?_ | refine awps_stp0 rfl rfl (by decide) (stp_load_elpa rfl tf_api_Term rfl rfl) ?_ | refine awps_stp0 rfl rfl (by decide) (stp_load_elpn rfl tf_api_Term rfl rfl rfl) ?_
      refine awps_call (avs := [_]) true rfl rfl rfl (by decide) en_almagestref1_Vars rfl rfl (rVars_ok d u (h u hum) (Tm.wfs_mem ht.2.2.2.2 hum) (by omega)) rfl rfl ?_
      refine awps_call (avs := [_, _]) true rfl rfl rfl (by decide) en_almagestref1_Names rfl rfl (rNames_ok _ _ (by omega)) rfl rfl ?_
      refine awps_stp0 rfl rfl (by decide) (stp_move (.inr rfl) rfl) ?_
      refine awps_nil ?_
      refine inQ_nil ?_
      refine thenQ_nil ?_
      refine awp_region ?_
      refine awps_stp0 rfl rfl (by decide) (stp_move (.inl rfl) rfl) ?_
      refine awps_stp0 rfl rfl (by decide) (stp_add rfl rfl rfl (by omega)) ?_
      refine awps_stp0 rfl rfl (by decide) (stp_move (.inr rfl) rfl) ?_
      refine awps_nil ?_
      refine thenQ_nil ?_
      refine ⟨?_, ?_, ?_⟩
      · skip
        omega
      · skip
        omega
      exact sub_re (SubT.cons (lk_eq rfl (by first | rfl | simp)) (SubT.cons (lk_eq rfl (by rw [take_snoc hu, List.foldl_append]; rfl)) (SubT.cons (lk_eq rfl (by first | rfl | simp)) (SubT.nil)))) (SubO.cons (ok_eq rfl (by rfl)) (SubO.nil)) rfl rfl (noL' (noL hL) _)
    try simp only [↓str_beq_t, ↓str_beq_f, decide_eq_true_eq, decide_eq_false_iff_not, Bool.not_eq_true', Bool.not_eq_false', Int.not_lt, Int.not_le, beq_iff_eq, beq_eq_false_iff_ne, bne_iff_ne, bne_eq_false_iff_eq, ne_eq] at c1
    refine awp_exit ?_
    refine thenQ_exit (thenQ_exit (inQ_hit ?_))
    refine thenQ_nil ?_
    refine awp_seq ?_
    refine awp_region ?_
    refine awps_stp0 rfl rfl (by decide) (stp_move (.inl rfl) rfl) ?_
    refine awps_stp0 rfl rfl (by decide) (stp_move (.inr rfl) rfl) ?_
    refine awps_nil ?_
    refine thenQ_nil ?_
    refine awp_ret ?_
    -- leaf 0F1F
    refine ret0 (noL hL) (.inl rfl) (resAs_tmp rfl (resAs_nil)) ?_ ?_
    · rfl
    exact ⟨by rw [varsR, if_neg c0, List.take_of_length_le (by omega)]; rfl, rfl⟩

theorem insertS_mem (l : List ByteArray) (x y : ByteArray) : y ∈ insertS l x ↔ y ∈ l ∨ y = x := by
  unfold insertS
  split
  · rename_i h
    have := List.mem_of_getElem? h
    constructor
    · exact .inl
    · rintro (h | rfl)
      · exact h
      · exact this
  · have e : y ∈ l ↔ y ∈ l.take (posS l x) ∨ y ∈ l.drop (posS l x) := by
      rw [← List.mem_append, List.take_append_drop]
    simp only [List.mem_append, List.mem_singleton, e]
    constructor
    · rintro ((h | h) | h) <;> simp [h]
    · rintro ((h | h) | h) <;> simp [h]
theorem namesR_mem (y : ByteArray) : ∀ (b a : List ByteArray), y ∈ namesR a b ↔ y ∈ a ∨ y ∈ b
  | [], a => by simp [namesR]
  | x :: b, a => by
    have := namesR_mem y b (insertS a x)
    simp only [namesR, List.foldl_cons] at this ⊢
    rw [this, insertS_mem, List.mem_cons]
    constructor
    · rintro ((h | h) | h) <;> simp [h]
    · rintro (h | h | h) <;> simp [h]
/-- A variable has nothing within. -/
def vok : Nat → Tm → Prop
  | 0, _ => True
  | d + 1, t => (t.kind = 1 → t.args = []) ∧ ∀ u, u ∈ t.args → vok d u
theorem noteL_mem (d : Nat) (y : ByteArray) (ih : ∀ (t : Tm) (ss : List ByteArray), y ∈ noteS d t ss ↔ y ∈ ss ∨ y ∈ noteS d t []) : ∀ (l : List Tm) (ss : List ByteArray), y ∈ l.foldl (fun s u => noteS d u s) ss ↔ y ∈ ss ∨ ∃ u, u ∈ l ∧ y ∈ noteS d u []
  | [], ss => by simp
  | a :: l, ss => by
    simp only [List.foldl_cons]
    rw [noteL_mem d y ih l (noteS d a ss), ih a ss]
    constructor
    · rintro ((h | h) | ⟨u, h1, h2⟩)
      · exact .inl h
      · exact .inr ⟨a, by simp, h⟩
      · exact .inr ⟨u, by simp [h1], h2⟩
    · rintro (h | ⟨u, h1, h2⟩)
      · exact .inl (.inl h)
      · rcases List.mem_cons.1 h1 with rfl | h1
        · exact .inl (.inr h2)
        · exact .inr ⟨u, h1, h2⟩
theorem noteS_mem : ∀ (d : Nat) (y : ByteArray) (t : Tm) (ss : List ByteArray), y ∈ noteS d t ss ↔ y ∈ ss ∨ y ∈ noteS d t []
  | 0, y, t, ss => by simp [noteS]
  | d + 1, y, t, ss => by
    simp only [noteS]
    rw [noteL_mem d y (noteS_mem d y), noteL_mem d y (noteS_mem d y) t.args (if t.kind = 1 then t.name :: [] else [])]
    split
    · simp only [List.mem_cons, List.not_mem_nil, or_false]
      constructor
      · rintro ((h | h) | h) <;> simp [h]
      · rintro (h | h | h) <;> simp [h]
    · simp
theorem varsL_mem (d : Nat) (y : ByteArray) : ∀ (l : List Tm) (acc : List ByteArray), y ∈ l.foldl (fun acc u => namesR acc (varsR d u)) acc ↔ y ∈ acc ∨ ∃ u, u ∈ l ∧ y ∈ varsR d u
  | [], acc => by simp
  | a :: l, acc => by
    simp only [List.foldl_cons]
    rw [varsL_mem d y l, namesR_mem]
    constructor
    · rintro ((h | h) | ⟨u, h1, h2⟩)
      · exact .inl h
      · exact .inr ⟨a, by simp, h⟩
      · exact .inr ⟨u, by simp [h1], h2⟩
    · rintro (h | ⟨u, h1, h2⟩)
      · exact .inl (.inl h)
      · rcases List.mem_cons.1 h1 with rfl | h1
        · exact .inl (.inr h2)
        · exact .inr ⟨u, h1, h2⟩
theorem varsR_note : ∀ (d : Nat) (y : ByteArray) (t : Tm), vok d t → (y ∈ varsR d t ↔ y ∈ noteS d t [])
  | 0, y, t, _ => by simp [varsR, noteS]
  | d + 1, y, t, h => by
    simp only [varsR, noteS]
    rw [noteL_mem d y (noteS_mem d y)]
    split
    · rename_i hk
      rw [h.1 hk]; simp
    · rw [varsL_mem]
      constructor
      · rintro (h1 | ⟨u, h1, h2⟩)
        · simp at h1
        · exact .inr ⟨u, h1, (varsR_note d y u (h.2 u h1)).1 h2⟩
      · rintro (h1 | ⟨u, h1, h2⟩)
        · simp at h1
        · exact .inr ⟨u, h1, (varsR_note d y u (h.2 u h1)).2 h2⟩
theorem mayL_vok (d : Nat) (ih : ∀ (t : Tm) (n : Int), (mayS d t n).1 = true → vok d t) : ∀ (l : List Tm) (n : Int), (mayL (mayS d) l n).1 = true → ∀ u, u ∈ l → vok d u
  | [], n, _, u, hu => by simp at hu
  | a :: l, n, h, u, hu => by
    simp only [mayL] at h
    split at h
    · rename_i hb
      rcases List.mem_cons.1 hu with rfl | hu
      · exact ih _ n hb
      · exact mayL_vok d ih l _ h u hu
    · cases h
theorem mayS_vok : ∀ (d : Nat) (t : Tm) (n : Int), (mayS d t n).1 = true → vok d t
  | 0, t, n, h => trivial
  | d + 1, t, n, h => by
    have e0 : ∀ l : List Tm, l.length = 0 → l = [] := fun l h => List.eq_nil_of_length_eq_zero h
    simp only [mayS] at h
    split at h
    · cases h
    split at h
    · simp only [Bool.and_eq_true, decide_eq_true_eq] at h
      have := e0 _ h.2
      simp [vok, this]
    rename_i k1
    split at h
    · simp only [Bool.and_eq_true, decide_eq_true_eq] at h
      have := e0 _ h.2
      simp [vok, this]
    split at h
    · split at h
      · exact ⟨fun hk => absurd hk k1, mayL_vok d (mayS_vok d) t.args (n - 1) h⟩
      · cases h
    · cases h
theorem rGround_ok (t : Tm) (ht : t.wf) (hm : mayT t = true) : PF 14 [tmA false t] (bv (groundB t)) := by
  obtain ⟨h1, h2⟩ := mayT_dle hm
  have hv := mayS_vok 5 t 24 hm
  refine AC_intro Try.func14 rfl Try.ntmps14 (Nat.le_of_ble_eq_true rfl) fun c hL => ?_
  refine awp_seq ?_
  refine awp_region ?_
  refine awps_stp1 rfl rfl (by decide) (stp_box 1 rfl rfl rfl) rfl ?_
  refine awps_stp0 rfl rfl (by decide) (stp_move (.inr rfl) rfl) ?_
  refine awps_nil ?_
  refine thenQ_nil ?_
  refine awp_seq ?_
  refine awp_region ?_
  first | refine awps_stp0 rfl rfl (by decide) (stp_load_all rfl tf_api_Term rfl rfl rfl rfl) ?_ | refine awps_stp0 rfl rfl (by decide) (stp_load rfl tf_api_Term rfl rfl rfl rfl rfl) ?_ | refine awps_stp0 rfl rfl (by decide) (stp_load_elpa rfl tf_api_Term rfl rfl) ?_ | refine awps_stp0 rfl rfl (by decide) (stp_load_elpn rfl tf_api_Term rfl rfl rfl) ?_
  refine awps_call (avs := [_]) true rfl rfl rfl (by decide) en_almagestref1_Vars rfl rfl (rVars_ok 5 t h1 ht (by omega)) rfl rfl ?_
  first | refine awps_stp0 rfl rfl (by decide) (stp_len_dat rfl sl_S_string rfl) ?_ | refine awps_stp0 rfl rfl (by decide) (stp_len_rowd rfl sl_S_string rfl rfl) ?_ | refine awps_stp0 rfl rfl (by decide) (stp_len_nil rfl sl_S_string rfl) ?_
  refine awps_stp0 rfl rfl (by decide) (stp_binI rfl rfl rfl rfl) ?_
  refine awps_stp0 rfl rfl (by decide) (stp_move (.inr rfl) rfl) ?_
  refine awps_nil ?_
  refine thenQ_nil ?_
  refine awp_ret ?_
  -- leaf 
  refine ret0 (noL hL) (.inl rfl) (resAs_tmp rfl (resAs_nil)) ?_ ?_
  · rfl
  refine ⟨bool_w ?_, rfl⟩
  rw [strDs_length, natBeq0, groundB, Bool.eq_iff_iff, decide_eq_true_eq, List.length_eq_zero_iff, List.isEmpty_iff]
  constructor
  · intro h; exact List.eq_nil_iff_forall_not_mem.2 fun s hs => by have := (varsR_note 5 s t hv).2 hs; rw [h] at this; simp at this
  · intro h; exact List.eq_nil_iff_forall_not_mem.2 fun s hs => by have := (varsR_note 5 s t hv).1 hs; rw [h] at this; simp at this

theorem rsign_ok (x y : Int) : PF 94 [iv x, iv y] (iv (cmpI x y)) := by
  refine AC_intro Try.func94 rfl Try.ntmps94 (Nat.le_of_ble_eq_true rfl) fun c hL => ?_
  refine awp_seq ?_
  refine awp_region ?_
  refine awps_stp0 rfl rfl (by decide) (stp_move (.inr rfl) rfl) ?_
  refine awps_nil ?_
  refine thenQ_nil ?_
  refine awp_seq ?_
  refine awp_block ?_
  refine awp_seq ?_
  refine awp_region ?_
  refine awps_stp0 rfl rfl (by decide) (stp_move (.inl rfl) rfl) ?_
  refine awps_stp0 rfl rfl (by decide) (stp_move (.inl rfl) rfl) ?_
  refine awps_stp0 rfl rfl (by decide) (stp_binI rfl rfl rfl rfl) ?_
  refine awps_stp0 rfl rfl (by decide) (stp_move (.inr rfl) rfl) ?_
  refine awps_nil ?_
  refine thenQ_nil ?_
  refine awp_cond rfl (fun c0 => ?_) (fun c0 => ?_)
  · try simp only [↓str_beq_t, ↓str_beq_f, decide_eq_true_eq, decide_eq_false_iff_not, Bool.not_eq_true', Bool.not_eq_false', Int.not_lt, Int.not_le, beq_iff_eq, beq_eq_false_iff_ne, bne_iff_ne, bne_eq_false_iff_eq, ne_eq] at c0
    refine awp_seq ?_
    refine awp_region ?_
    refine awps_stp0 rfl rfl (by decide) (stp_move (.inr rfl) rfl) ?_
    refine awps_nil ?_
    refine thenQ_nil ?_
    refine awp_ret ?_
    refine inQ_ret (thenQ_ret (?_))
    -- leaf 0T
    refine ret0 (noL hL) (.inl rfl) (resAs_tmp rfl (resAs_nil)) ?_ ?_
    · rfl
    refine ⟨int_w ?_, rfl⟩
    simp only [cmpI]; split <;> (try split) <;> omega
  try simp only [↓str_beq_t, ↓str_beq_f, decide_eq_true_eq, decide_eq_false_iff_not, Bool.not_eq_true', Bool.not_eq_false', Int.not_lt, Int.not_le, beq_iff_eq, beq_eq_false_iff_ne, bne_iff_ne, bne_eq_false_iff_eq, ne_eq] at c0
  refine awp_seq ?_
  refine awp_region ?_
  refine awps_stp0 rfl rfl (by decide) (stp_move (.inl rfl) rfl) ?_
  refine awps_stp0 rfl rfl (by decide) (stp_move (.inl rfl) rfl) ?_
  refine awps_stp0 rfl rfl (by decide) (stp_binI rfl rfl rfl rfl) ?_
  refine awps_stp0 rfl rfl (by decide) (stp_move (.inr rfl) rfl) ?_
  refine awps_nil ?_
  refine thenQ_nil ?_
  refine awp_cond rfl (fun c1 => ?_) (fun c1 => ?_)
  · try simp only [↓str_beq_t, ↓str_beq_f, decide_eq_true_eq, decide_eq_false_iff_not, Bool.not_eq_true', Bool.not_eq_false', Int.not_lt, Int.not_le, beq_iff_eq, beq_eq_false_iff_ne, bne_iff_ne, bne_eq_false_iff_eq, ne_eq] at c1
    refine awp_seq ?_
    refine awp_region ?_
    refine awps_stp0 rfl rfl (by decide) (stp_move (.inr rfl) rfl) ?_
    refine awps_nil ?_
    refine thenQ_nil ?_
    refine awp_ret ?_
    refine inQ_ret (thenQ_ret (?_))
    -- leaf 0F1T
    refine ret0 (noL hL) (.inl rfl) (resAs_tmp rfl (resAs_nil)) ?_ ?_
    · rfl
    refine ⟨int_w ?_, rfl⟩
    simp only [cmpI]; split <;> (try split) <;> omega
  try simp only [↓str_beq_t, ↓str_beq_f, decide_eq_true_eq, decide_eq_false_iff_not, Bool.not_eq_true', Bool.not_eq_false', Int.not_lt, Int.not_le, beq_iff_eq, beq_eq_false_iff_ne, bne_iff_ne, bne_eq_false_iff_eq, ne_eq] at c1
  refine awp_skip ?_
  refine inQ_nil ?_
  refine thenQ_nil ?_
  refine awp_seq ?_
  refine awp_region ?_
  refine awps_stp0 rfl rfl (by decide) (stp_move (.inr rfl) rfl) ?_
  refine awps_nil ?_
  refine thenQ_nil ?_
  refine awp_ret ?_
  -- leaf 0F1F
  refine ret0 (noL hL) (.inl rfl) (resAs_tmp rfl (resAs_nil)) ?_ ?_
  · rfl
  refine ⟨int_w ?_, rfl⟩
  simp only [cmpI]; split <;> (try split) <;> omega
end Go.Proofs.Ytdecgkhdbfgldaa
