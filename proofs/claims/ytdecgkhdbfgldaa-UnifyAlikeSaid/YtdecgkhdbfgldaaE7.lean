/- Part 7 of the proof: Fs, Ft, Fu, Fv, Fx. -/
import Derived.Test.YtdecgkhdbfgldaaE6
set_option linter.unusedVariables false
set_option linter.unusedSimpArgs false
set_option maxRecDepth 8000
namespace Go.Proofs.Ytdecgkhdbfgldaa
open Go
theorem IndexFunc_st_ok (B : Bool) (ts : List ByteArray) (es : List (List D)) (hes : es = ts.map (fun s => [D.imm (.string s)])) (hlen : ts.length ≤ 140737488351232) (g : FuncId) (caps : List AV) (hen : Enters Try.prog g) (Os : Nat → List (Nat × Ob)) (p : Nat → Bool) (hO : Thread B caps Os)
    (hstep : ∀ k u, ts[k]? = some u → (∀ j, j < k → p j = false) → AC Try.prog g (sv u :: caps) (Os k) (fun r O => r = bv (p k) ∧ O = Os (k + 1))) :
    AC Try.prog 108 [.dat false 1 es, .fn g caps] (Os 0) (fun r O => ∃ m n i, m ≤ ts.length ∧ (∀ j, j < m → p j = false) ∧ ((m < ts.length ∧ p m = true ∧ i = (m : Int) ∧ n = m + 1) ∨ (m = ts.length ∧ i = -1 ∧ n = m)) ∧ r = iv i ∧ O = Os n) := by
  have hl : es.length = ts.length := by rw [hes, List.length_map]
  refine AC_intro Try.func108 rfl Try.ntmps108 (Nat.le_of_ble_eq_true rfl) fun c hL hQ => ?_
  refine awp_seq ?_
  refine awp_region ?_
  refine awps_stp0 rfl rfl (by decide) (stp_move (.inr rfl) rfl) ?_
  refine awps_nil ?_
  refine thenQ_nil ?_
  refine awp_seq ?_
  refine awp_seq ?_
  refine awp_region ?_
  refine awps_stp0 rfl rfl (by decide) (stp_move (.inl rfl) rfl) ?_
  first | refine awps_stp0 rfl rfl (by decide) (stp_len_dat rfl sl_S_string rfl) ?_ | refine awps_stp0 rfl rfl (by decide) (stp_len_rowd rfl sl_S_string rfl rfl) ?_ | refine awps_stp0 rfl rfl (by decide) (stp_len_nil rfl sl_S_string rfl) ?_ | refine awps_stp0 rfl rfl (by decide) (stp_len_vw rfl sl_S_string rfl) ?_
  refine awps_stp0 rfl rfl (by decide) (stp_move (.inl rfl) rfl) ?_
  refine awps_nil ?_
  refine thenQ_nil ?_
  refine awp_block ?_
  refine awp_while (ts.length) (fun k => k ≤ ts.length ∧ ∀ j, j < k → p j = false) (fun k => ⟨[(0, .dat false 1 es), (1, .fn g caps), (7, iv es.length), (8, iv (k : Int))], Os k⟩) (⟨by omega, fun j hj => absurd hj (by omega)⟩) ?_ (fun k hk hp => ?_)
  · exact sub_re (SubT.cons (lk_eq rfl (by first | rfl | simp)) (SubT.cons (lk_eq rfl (by first | rfl | simp)) (SubT.cons (lk_eq rfl (by first | rfl | simp)) (SubT.cons (lk_eq rfl (by first | rfl | simp)) (SubT.nil))))) (fun _ _ h => h) (by simp [allT, AV.allL, hO.all]) (hO.self _) (fun l hl => by rw [hO.dom]; exact (hL l).1 hl)
  refine awp_seq ?_
  refine awp_region ?_
  refine awps_stp0 rfl rfl (by decide) (stp_binI rfl rfl rfl rfl) ?_
  refine awps_nil ?_
  refine thenQ_nil ?_
  refine awp_seq ?_
  refine awp_cond rfl (fun c0 => ?_) (fun c0 => ?_)
  · try simp only [↓str_beq_t, ↓str_beq_f, decide_eq_true_eq, decide_eq_false_iff_not, Bool.not_eq_true', Bool.not_eq_false', Int.not_lt, Int.not_le, beq_iff_eq, beq_eq_false_iff_ne, bne_iff_ne, bne_eq_false_iff_eq, ne_eq] at c0
    obtain ⟨u, hu⟩ := get_of_lt (l := ts) (k := k) (by omega)
    refine awp_skip ?_
    refine thenQ_nil ?_
    refine awp_seq ?_
    refine awp_block ?_
    refine awp_seq ?_
    refine awp_region ?_
    refine awps_stp0 rfl rfl (by decide) (stp_move (.inl rfl) rfl) ?_
    refine awps_stp0 rfl rfl (by decide) (stp_move (.inr rfl) rfl) ?_
    refine awps_nil ?_
    refine thenQ_nil ?_
    refine awp_seq ?_
    refine awp_region ?_
    refine awps_stp0 rfl rfl (by decide) (stp_move (.inl rfl) rfl) ?_
    refine awps_stp0 rfl rfl (by decide) (stp_move (.inl rfl) rfl) ?_
    refine awps_stp0 rfl rfl (by decide) (stp_move (.inl rfl) rfl) ?_
    first | refine awps_stp0 rfl rfl (by decide) (stp_indexAddr rfl sl_S_string rfl rfl (by omega) (by rw [hes, List.getElem?_map]; exact congrArg (Option.map (fun s => [D.imm (.string s)])) hu)) ?_ | refine awps_stp0 rfl rfl (by decide) (stp_indexAddr_rowd rfl sl_S_string rfl rfl rfl (by omega) (by rw [hes, List.getElem?_map]; exact congrArg (Option.map (fun s => [D.imm (.string s)])) hu)) ?_ | refine awps_stp0 rfl rfl (by decide) (stp_indexAddr_row rfl sl_S_string rfl rfl rfl (by omega) (by rw [hes, List.getElem?_map]; exact congrArg (Option.map (fun s => [D.imm (.string s)])) hu) (by decide)) ?_
    first | refine awps_stp0 rfl rfl (by decide) (stp_load rfl tf_string rfl rfl rfl rfl rfl) ?_ | refine awps_stp0 rfl rfl (by decide) (stp_load_elp1 rfl tf_string rfl) ?_ | refine awps_stp0 rfl rfl (by decide) (stp_load_elpn rfl tf_string rfl rfl rfl) ?_
    refine awps_callP (avs := [_]) B rfl rfl rfl (by decide) hen rfl rfl (hstep k u hu hp.2) (by rw [List.cons_append, List.nil_append]; simp only [AV.cvs, hO.cvs]; rfl) (hO.pass k) (by rintro r O' ⟨_, rfl⟩ l hl; left; rw [hO.dom] at hl ⊢; exact hl) (by rintro hB r O' ⟨rfl, rfl⟩; exact ⟨rfl, hO.q hB _⟩) ?_
    rintro r O' ⟨rfl, rfl⟩
    refine awps_nil ?_
    refine thenQ_nil ?_
    refine awp_cond rfl (fun c1 => ?_) (fun c1 => ?_)
    · try simp only [↓str_beq_t, ↓str_beq_f, decide_eq_true_eq, decide_eq_false_iff_not, Bool.not_eq_true', Bool.not_eq_false', Int.not_lt, Int.not_le, beq_iff_eq, beq_eq_false_iff_ne, bne_iff_ne, bne_eq_false_iff_eq, ne_eq] at c1
      refine awp_seq ?_
      refine awp_region ?_
      refine awps_stp0 rfl rfl (by decide) (stp_move (.inl rfl) rfl) ?_
      refine awps_stp0 rfl rfl (by decide) (stp_move (.inr rfl) rfl) ?_
      refine awps_nil ?_
      refine thenQ_nil ?_
      refine awp_ret ?_
      refine inQ_ret (thenQ_ret (thenQ_ret (inQ_ret (thenQ_ret (?_)))))
      change retQ _ _ _ _ _ _ _
      refine retO (.inl rfl) (resAs_tmp rfl resAs_nil) SubO.left rfl (hO.self _) (fun l hl => by rw [hO.dom]; exact (hL l).1 hl) ?_
      exact ⟨k, _, _, by omega, hp.2, .inl ⟨by omega, c1, rfl, rfl⟩, rfl, rfl⟩
    try simp only [↓str_beq_t, ↓str_beq_f, decide_eq_true_eq, decide_eq_false_iff_not, Bool.not_eq_true', Bool.not_eq_false', Int.not_lt, Int.not_le, beq_iff_eq, beq_eq_false_iff_ne, bne_iff_ne, bne_eq_false_iff_eq, ne_eq] at c1
    refine awp_skip ?_
    refine inQ_nil ?_
    refine thenQ_nil ?_
    refine awp_region ?_
    refine awps_stp0 rfl rfl (by decide) (stp_add rfl rfl rfl (by omega)) ?_
    refine awps_stp0 rfl rfl (by decide) (stp_move (.inl rfl) rfl) ?_
    refine awps_nil ?_
    refine thenQ_nil ?_
    refine ⟨?_, ?_, ?_⟩
    · skip
      omega
    · skip
      refine ⟨by omega, fun j hj => ?_⟩
      by_cases hjk : j < k
      · exact hp.2 j hjk
      · rw [show j = k by omega]; exact c1
    exact sub_re (SubT.cons (lk_eq rfl (by first | rfl | simp)) (SubT.cons (lk_eq rfl (by first | rfl | simp)) (SubT.cons (lk_eq rfl (by first | rfl | simp)) (SubT.cons (lk_eq rfl (by first | rfl | simp)) (SubT.nil))))) (SubO.left) (by simp [allT, AV.allL, hO.all]) (hO.self _) (fun l hl => by rw [hO.dom]; exact (hL l).1 hl)
  try simp only [↓str_beq_t, ↓str_beq_f, decide_eq_true_eq, decide_eq_false_iff_not, Bool.not_eq_true', Bool.not_eq_false', Int.not_lt, Int.not_le, beq_iff_eq, beq_eq_false_iff_ne, bne_iff_ne, bne_eq_false_iff_eq, ne_eq] at c0
  refine awp_exit ?_
  refine thenQ_exit (thenQ_exit (inQ_hit ?_))
  refine thenQ_nil ?_
  refine awp_seq ?_
  refine awp_region ?_
  refine awps_stp0 rfl rfl (by decide) (stp_move (.inr rfl) rfl) ?_
  refine awps_nil ?_
  refine thenQ_nil ?_
  refine awp_ret ?_
  change retQ _ _ _ _ _ _ _
  refine retO (.inl rfl) (resAs_tmp rfl resAs_nil) (fun _ _ h => h) rfl (hO.self _) (fun l hl => by rw [hO.dom]; exact (hL l).1 hl) ?_
  exact ⟨k, _, _, by omega, hp.2, .inr ⟨by omega, rfl, rfl⟩, rfl, rfl⟩
theorem ContainsFunc_st_ok (B : Bool) (ts : List ByteArray) (es : List (List D)) (hes : es = ts.map (fun s => [D.imm (.string s)])) (hlen : ts.length ≤ 140737488351232) (g : FuncId) (caps : List AV) (hen : Enters Try.prog g) (Os : Nat → List (Nat × Ob)) (p : Nat → Bool) (hO : Thread B caps Os)
    (hstep : ∀ k u, ts[k]? = some u → (∀ j, j < k → p j = false) → AC Try.prog g (sv u :: caps) (Os k) (fun r O => r = bv (p k) ∧ O = Os (k + 1))) :
    AC Try.prog 72 [.dat false 1 es, .fn g caps] (Os 0) (fun r O => ∃ m n b, m ≤ ts.length ∧ (∀ j, j < m → p j = false) ∧ ((m < ts.length ∧ p m = true ∧ b = true ∧ n = m + 1) ∨ (m = ts.length ∧ b = false ∧ n = m)) ∧ r = bv b ∧ O = Os n) := by
  refine AC_intro Try.func72 rfl Try.ntmps72 (Nat.le_of_ble_eq_true rfl) fun c hL hQ => ?_
  refine awp_seq ?_
  refine awp_region ?_
  refine awps_stp0 rfl rfl (by decide) (stp_move (.inr rfl) rfl) ?_
  refine awps_nil ?_
  refine thenQ_nil ?_
  refine awp_seq ?_
  refine awp_region ?_
  refine awps_stp0 rfl rfl (by decide) (stp_move (.inl rfl) rfl) ?_
  refine awps_stp0 rfl rfl (by decide) (stp_move (.inl rfl) rfl) ?_
  refine awps_callP (avs := [_, _]) B rfl rfl rfl (by decide) en_slices_IndexFunc_string_string rfl rfl (IndexFunc_st_ok B ts es hes hlen g caps hen Os p hO hstep) (by simp only [List.append_nil, AV.cvs, AV.cv, hO.cvs]; rfl) (hO.pass 0) (by rintro r O' ⟨m, n, i, _, _, _, _, rfl⟩ l hl; left; rw [hO.dom] at hl ⊢; exact hl) (by rintro hB r O' ⟨m, n, i, _, _, _, rfl, rfl⟩; exact ⟨rfl, hO.q hB _⟩) ?_
  rintro r O' ⟨m, n, i, hm, hf, hc, rfl, rfl⟩
  refine awps_stp0 rfl rfl (by decide) (stp_binI rfl rfl rfl rfl) ?_
  refine awps_stp0 rfl rfl (by decide) (stp_move (.inr rfl) rfl) ?_
  refine awps_nil ?_
  refine thenQ_nil ?_
  refine awp_ret ?_
  -- leaf 
  change retQ _ _ _ _ _ _ _
  refine retO (.inl rfl) (resAs_tmp rfl resAs_nil) SubO.left rfl (hO.self _) (fun l hl => by rw [hO.dom]; exact (hL l).1 hl) ?_
  refine ⟨m, n, _, hm, hf, ?_, rfl, rfl⟩
  rcases hc with ⟨h1, h2, rfl, h3⟩ | ⟨h1, rfl, h3⟩
  · exact .inl ⟨h1, h2, by simp, h3⟩
  · exact .inr ⟨h1, by simp, h3⟩
def stepB (l : List Bd) (i : Nat) : Bool := match l[i]? with
  | some b => varB b.name && mayT b.t && (decide (i = 0) || match l[i - 1]? with | some a => ltS a.name b.name | none => true)
  | none => true
def mayB (l : List Bd) : Bool := decide (l.length ≤ 16) && (List.range l.length).all (stepB l) && !(noteL 5 (l.map Bd.t)).any (hasB l)
theorem steps_bok {l : List Bd} (h : ∀ j, j < l.length → stepB l j = true) (hl : l.length ≤ 16) (hw : ∀ b ∈ l, b.wf) : BOk l := by
  have adj : ∀ (i : Nat) (a b : Bd), l[i]? = some a → l[i + 1]? = some b → ltS a.name b.name = true := fun i a b ha hb => by
    have := h (i + 1) (List.getElem?_eq_some_iff.1 hb).1
    simp only [stepB, hb, Nat.add_sub_cancel, ha, Bool.and_eq_true] at this
    simpa using this.2
  have far : ∀ (n i : Nat) (a b : Bd), l[i]? = some a → l[i + 1 + n]? = some b → ltS a.name b.name = true := fun n => by
    induction n with
    | zero => intro i a b ha hb; exact adj i a b ha (by simpa using hb)
    | succ n ih =>
      intro i a b ha hb
      have hlt := (List.getElem?_eq_some_iff.1 hb).1
      obtain ⟨c, hc⟩ := get_of_lt (l := l) (k := i + 1 + n) (by omega)
      exact ltS_trans (ih i a c ha hc) (adj (i + 1 + n) c b hc (by rw [show i + 1 + n + 1 = i + 1 + (n + 1) by omega]; exact hb))
  refine ⟨List.pairwise_iff_getElem.2 fun i j hi hj hij => ?_, by omega, fun b hb => ⟨hw b hb, ?_⟩⟩
  · exact far (j - i - 1) i _ _ (List.getElem?_eq_getElem hi) (by rw [show i + 1 + (j - i - 1) = j by omega]; exact List.getElem?_eq_getElem hj)
  · obtain ⟨i, hi⟩ := List.getElem?_of_mem hb
    have := h i (List.getElem?_eq_some_iff.1 hi).1
    simp only [stepB, hi, Bool.and_eq_true] at this
    exact this.1.2
theorem mayB_bok {l : List Bd} (h : mayB l = true) (hw : ∀ b ∈ l, b.wf) : BOk l := by
  simp only [mayB, Bool.and_eq_true, decide_eq_true_eq, List.all_eq_true, List.mem_range] at h
  exact steps_bok (fun j hj => h.1.2 j hj) h.1.1 hw
theorem noteL_sum {ts : List Tm} (h : ∀ t ∈ ts, mayT t = true) : (ts.map (nodes 5)).sum ≤ 25 * ts.length := by
  induction ts with
  | nil => simp
  | cons a ts ih =>
    have h1 := (mayT_dle (h a (by simp))).2
    have h2 := ih (fun t ht => h t (by simp [ht]))
    simp only [List.map_cons, List.sum_cons, List.length_cons]; omega
theorem wfs_of : ∀ {ts : List Tm}, (∀ t ∈ ts, t.wf) → Tm.wfs ts
  | [], _ => trivial
  | t :: ts, h => ⟨(Tm.wf0_iff t).2 (h t (by simp)), wfs_of (fun u hu => h u (by simp [hu]))⟩
theorem bindMay1_ok (l : List Bd) (hl : BOk l) (s : ByteArray) : AC Try.prog 97 [sv s, .ptr 1 0] [(1, .box [bdA l])] (fun r O => r = bv (hasB l s) ∧ O = [(1, .box [bdA l])]) := by
  have hln := hl.len
  refine AC_intro Try.func97 rfl Try.ntmps97 (Nat.le_of_ble_eq_true rfl) fun c hL hQ => ?_
  refine awp_seq ?_
  refine awp_region ?_
  refine awps_stp0 rfl rfl (by decide) (stp_move (.inr rfl) rfl) ?_
  refine awps_nil ?_
  refine thenQ_nil ?_
  refine awp_seq ?_
  refine awp_region ?_
  first | refine awps_stp0 rfl rfl (by decide) (stp_load rfl tf_S_api_Bind rfl rfl rfl rfl rfl) ?_ | refine awps_stp0 rfl rfl (by decide) (stp_load_elp1 rfl tf_S_api_Bind rfl) ?_ | refine awps_stp0 rfl rfl (by decide) (stp_load_elpn rfl tf_S_api_Bind rfl rfl rfl) ?_
  refine awps_stp0 rfl rfl (by decide) (stp_move (.inl rfl) rfl) ?_
  refine awps_call (avs := [_, _]) false rfl rfl rfl (by decide) en_bind_find rfl rfl (find_ok l s hl.ris (by omega)) rfl rfl ?_
  refine awps_stp0 rfl rfl (by decide) (stp_move (.inl rfl) rfl) ?_
  refine awps_stp0 rfl rfl (by decide) (stp_extract rfl rfl rfl) ?_
  refine awps_stp0 rfl rfl (by decide) (stp_extract rfl rfl rfl) ?_
  refine awps_stp0 rfl rfl (by decide) (stp_move (.inr rfl) rfl) ?_
  refine awps_stp0 rfl rfl (by decide) (stp_move (.inr rfl) rfl) ?_
  refine awps_nil ?_
  refine thenQ_nil ?_
  refine awp_seq ?_
  refine awp_region ?_
  refine awps_stp0 rfl rfl (by decide) (stp_move (.inl rfl) rfl) ?_
  refine awps_stp0 rfl rfl (by decide) (stp_move (.inr rfl) rfl) ?_
  refine awps_nil ?_
  refine thenQ_nil ?_
  refine awp_ret ?_
  -- leaf 
  change retQ _ _ _ _ _ _ _
  refine retO (O' := [(1, _)]) (.inl rfl) (resAs_tmp rfl resAs_nil) (SubO.cons rfl SubO.nil) ?_ ?_ (LO hL rfl) ?_
  · rfl
  · rfl
  exact ⟨rfl, rfl⟩
theorem any_found {L N : List ByteArray} {p : ByteArray → Bool} (hm : ∀ s, s ∈ L ↔ s ∈ N) {m n : Nat} {b : Bool} (hf : ∀ j, j < m → (match L[j]? with | some s => p s | none => false) = false) (hc : (m < L.length ∧ (match L[m]? with | some s => p s | none => false) = true ∧ b = true ∧ n = m + 1) ∨ (m = L.length ∧ b = false ∧ n = m)) : b = N.any p := by
  rw [Bool.eq_iff_iff, List.any_eq_true]
  rcases hc with ⟨h1, h2, rfl, _⟩ | ⟨h1, rfl, _⟩
  · obtain ⟨s, hs⟩ := get_of_lt h1
    rw [hs] at h2
    exact ⟨fun _ => ⟨s, (hm s).1 (List.mem_of_getElem? hs), h2⟩, fun _ => rfl⟩
  · constructor
    · intro h; cases h
    · rintro ⟨s, hs, hp⟩
      obtain ⟨j, hj⟩ := List.getElem?_of_mem ((hm s).2 hs)
      have := hf j (by rw [h1]; exact (List.getElem?_eq_some_iff.1 hj).1)
      rw [hj] at this
      simp only at this
      rw [this] at hp; cases hp
theorem rising_len {L N : List ByteArray} (hr : Rising L) (hm : ∀ s, s ∈ L ↔ s ∈ N) : L.length ≤ N.length := by
  have hnd : L.Nodup := by
    refine hr.imp fun {a b} h e => ?_
    subst e; exact List.lt_irrefl _ h
  exact hnd.length_le_of_subset (fun s hs => (hm s).1 hs)
theorem ltS_no {a b : ByteArray} (h : (Op.bytesLess a.toList b.toList || a.toList == b.toList) = true) : ltS b a = false := by
  cases hc : ltS b a with
  | false => rfl
  | true =>
    simp only [Bool.or_eq_true, str_beq_t] at h
    rcases h with h | h
    · have := ltS_trans hc (show ltS a b = true from h); rw [ltS_irrefl] at this; cases this
    · rw [h, ltS_irrefl] at hc; cases hc
theorem ltS_yes {a b : ByteArray} (h : (Op.bytesLess a.toList b.toList || a.toList == b.toList) = false) : ltS b a = true := by
  simp only [Bool.or_eq_false_iff, str_beq_f] at h
  rcases ltS_tri a b with h1 | h1 | h1
  · rw [show ltS a b = false from h.1] at h1; cases h1
  · exact absurd h1 h.2
  · exact h1
theorem stepB_get {l : List Bd} {k : Nat} {u : Bd} (h : l[k]? = some u) : stepB l k = (varB u.name && mayT u.t && (decide (k = 0) || match l[k - 1]? with | some a => ltS a.name u.name | none => true)) := by
  rw [stepB, h]
theorem bindMay_ok (l : List Bd) (hw : ∀ b ∈ l, b.wf) : PF 61 [bdA l] (bv (mayB l)) := by
  have hlen := bdDs_length l
  refine AC_intro Try.func61 rfl Try.ntmps61 (Nat.le_of_ble_eq_true rfl) fun c hL hQ => ?_
  refine awp_seq ?_
  refine awp_region ?_
  refine awps_stp1 rfl rfl (by decide) (stp_box 1 rfl rfl rfl) rfl ?_
  refine awps_stp0 rfl rfl (by decide) (stp_move (.inr rfl) rfl) ?_
  refine awps_nil ?_
  refine thenQ_nil ?_
  refine awp_seq ?_
  refine awp_seq ?_
  refine awp_region ?_
  first | refine awps_stp0 rfl rfl (by decide) (stp_load rfl tf_S_api_Bind rfl rfl rfl rfl rfl) ?_ | refine awps_stp0 rfl rfl (by decide) (stp_load_elp1 rfl tf_S_api_Bind rfl) ?_ | refine awps_stp0 rfl rfl (by decide) (stp_load_elpn rfl tf_S_api_Bind rfl rfl rfl) ?_
  first | refine awps_stp0 rfl rfl (by decide) (stp_len_dat rfl sl_S_api_Bind rfl) ?_ | refine awps_stp0 rfl rfl (by decide) (stp_len_rowd rfl sl_S_api_Bind rfl rfl) ?_ | refine awps_stp0 rfl rfl (by decide) (stp_len_nil rfl sl_S_api_Bind rfl) ?_ | refine awps_stp0 rfl rfl (by decide) (stp_len_vw rfl sl_S_api_Bind rfl) ?_
  refine awps_stp0 rfl rfl (by decide) (stp_binI rfl rfl rfl rfl) ?_
  refine awps_nil ?_
  refine thenQ_nil ?_
  refine awp_cond rfl (fun c0 => ?_) (fun c0 => ?_)
  · try simp only [↓str_beq_t, ↓str_beq_f, decide_eq_true_eq, decide_eq_false_iff_not, Bool.not_eq_true', Bool.not_eq_false', Int.not_lt, Int.not_le, beq_iff_eq, beq_eq_false_iff_ne, bne_iff_ne, bne_eq_false_iff_eq, ne_eq] at c0
    refine awp_seq ?_
    refine awp_region ?_
    refine awps_stp0 rfl rfl (by decide) (stp_move (.inr rfl) rfl) ?_
    refine awps_nil ?_
    refine thenQ_nil ?_
    refine awp_ret ?_
    refine thenQ_ret (?_)
    -- leaf 0T
    refine ret0 (noL hL) (.inl rfl) (resAs_tmp rfl (resAs_nil)) ?_ ?_
    · rfl
    refine ⟨bool_w ?_, rfl⟩
    symm
    rw [mayB, decide_eq_false (by omega)]; rfl
  try simp only [↓str_beq_t, ↓str_beq_f, decide_eq_true_eq, decide_eq_false_iff_not, Bool.not_eq_true', Bool.not_eq_false', Int.not_lt, Int.not_le, beq_iff_eq, beq_eq_false_iff_ne, bne_iff_ne, bne_eq_false_iff_eq, ne_eq] at c0
  refine awp_skip ?_
  refine thenQ_nil ?_
  refine awp_seq ?_
  refine awp_seq ?_
  refine awp_region ?_
  first | refine awps_stp0 rfl rfl (by decide) (stp_load rfl tf_S_api_Bind rfl rfl rfl rfl rfl) ?_ | refine awps_stp0 rfl rfl (by decide) (stp_load_elp1 rfl tf_S_api_Bind rfl) ?_ | refine awps_stp0 rfl rfl (by decide) (stp_load_elpn rfl tf_S_api_Bind rfl rfl rfl) ?_
  first | refine awps_stp0 rfl rfl (by decide) (stp_len_dat rfl sl_S_api_Bind rfl) ?_ | refine awps_stp0 rfl rfl (by decide) (stp_len_rowd rfl sl_S_api_Bind rfl rfl) ?_ | refine awps_stp0 rfl rfl (by decide) (stp_len_nil rfl sl_S_api_Bind rfl) ?_ | refine awps_stp0 rfl rfl (by decide) (stp_len_vw rfl sl_S_api_Bind rfl) ?_
  refine awps_stp0 rfl rfl (by decide) (stp_move (.inl rfl) rfl) ?_
  refine awps_nil ?_
  refine thenQ_nil ?_
  refine awp_block ?_
  refine awp_while (l.length) (fun k => k ≤ l.length ∧ ∀ j, j < k → stepB l j = true) (fun k => ⟨[(1, .ptr 1 0), (9, bdA l), (10, iv (bdDs l).length), (11, iv (k : Int))], [(1, .box [bdA l])]⟩) (⟨by omega, fun j hj => absurd hj (by omega)⟩) ?_ (fun k hk hp => ?_)
  · exact sub_re (SubT.cons (lk_eq rfl (by first | rfl | simp)) (SubT.cons (lk_eq rfl (by first | rfl | simp)) (SubT.cons (lk_eq rfl (by first | rfl | simp)) (SubT.cons (lk_eq rfl (by first | rfl | simp)) (SubT.nil))))) (SubO.cons (ok_eq rfl (by rfl)) (SubO.nil)) rfl rfl (noL' (noL hL) _)
  refine awp_seq ?_
  refine awp_region ?_
  refine awps_stp0 rfl rfl (by decide) (stp_binI rfl rfl rfl rfl) ?_
  refine awps_nil ?_
  refine thenQ_nil ?_
  refine awp_seq ?_
  refine awp_cond rfl (fun c1 => ?_) (fun c1 => ?_)
  · try simp only [↓str_beq_t, ↓str_beq_f, decide_eq_true_eq, decide_eq_false_iff_not, Bool.not_eq_true', Bool.not_eq_false', Int.not_lt, Int.not_le, beq_iff_eq, beq_eq_false_iff_ne, bne_iff_ne, bne_eq_false_iff_eq, ne_eq] at c1
    obtain ⟨u, hu⟩ := get_of_lt (l := l) (k := k) (by omega)
    have huw := hw u (List.mem_of_getElem? hu)
    refine awp_skip ?_
    refine thenQ_nil ?_
    refine awp_seq ?_
    refine awp_block ?_
    refine awp_seq ?_
    refine awp_region ?_
    refine awps_stp0 rfl rfl (by decide) (stp_move (.inl rfl) rfl) ?_
    first | refine awps_stp0 rfl rfl (by decide) (stp_indexAddr rfl sl_S_api_Bind rfl rfl (by omega) (bdDs_get hu)) ?_ | refine awps_stp0 rfl rfl (by decide) (stp_indexAddr_rowd rfl sl_S_api_Bind rfl rfl rfl (by omega) (bdDs_get hu)) ?_ | refine awps_stp0 rfl rfl (by decide) (stp_indexAddr_row rfl sl_S_api_Bind rfl rfl rfl (by omega) (bdDs_get hu) (by decide)) ?_
    first | refine awps_stp0 rfl rfl (by decide) (stp_load_all rfl tf_api_Bind rfl rfl rfl rfl) ?_ | refine awps_stp0 rfl rfl (by decide) (stp_load rfl tf_api_Bind rfl rfl rfl rfl rfl) ?_ | refine awps_stp0 rfl rfl (by decide) (stp_load_elpa rfl tf_api_Bind rfl rfl) ?_ | refine awps_stp0 rfl rfl (by decide) (stp_load_elpn rfl tf_api_Bind rfl rfl rfl) ?_
    refine awps_stp1 rfl rfl (by decide) (stp_alloc 4 rfl zv_api_Bind rfl) rfl ?_
    refine awps_stp0 rfl rfl (by decide) (stp_move (.inr rfl) rfl) ?_
    refine awps_store rfl rfl rfl tf_api_Bind rfl rfl rfl rfl rfl rfl rfl rfl rfl ?_
    refine awps_nil ?_
    refine thenQ_nil ?_
    refine awp_seq ?_
    rcases Bool.eq_false_or_eq_true (varB u.name) with l18 | l18
    · have m18 := l18
      try simp only [↓str_beq_t, ↓str_beq_f, decide_eq_true_eq, decide_eq_false_iff_not, Bool.not_eq_true', Bool.not_eq_false', Int.not_lt, Int.not_le, beq_iff_eq, beq_eq_false_iff_ne, bne_iff_ne, bne_eq_false_iff_eq, ne_eq] at m18
      rcases Bool.eq_false_or_eq_true (mayT u.t) with l23 | l23
      · have m23 := l23
        try simp only [↓str_beq_t, ↓str_beq_f, decide_eq_true_eq, decide_eq_false_iff_not, Bool.not_eq_true', Bool.not_eq_false', Int.not_lt, Int.not_le, beq_iff_eq, beq_eq_false_iff_ne, bne_iff_ne, bne_eq_false_iff_eq, ne_eq] at m23
        rcases Bool.eq_false_or_eq_true (decide ((k : Int) > 0)) with l28 | l28
        · have m28 := l28
          try simp only [↓str_beq_t, ↓str_beq_f, decide_eq_true_eq, decide_eq_false_iff_not, Bool.not_eq_true', Bool.not_eq_false', Int.not_lt, Int.not_le, beq_iff_eq, beq_eq_false_iff_ne, bne_iff_ne, bne_eq_false_iff_eq, ne_eq] at m28
          obtain ⟨a, ha⟩ := get_of_lt (l := l) (k := k - 1) (by omega)
          have ha2 : l[((k : Int) - 1).toNat]? = some a := by rw [show ((k : Int) - 1).toNat = k - 1 by omega]; exact ha
          refine awp_drawG 22 mixed rfl rfl rfl rfl ?_
          first | refine MGo_c0 rfl (by decide) (.run rfl (stp_fieldAddr rfl fo_api_Bind_0 rfl)) ?_ | refine MGo_c0 rfl (by decide) (.run rfl (stp_fieldAddr_elp rfl fo_api_Bind_0 rfl)) ?_
          first | refine MGo_c0 rfl (by decide) (.run rfl (stp_load rfl tf_string rfl rfl rfl rfl rfl)) ?_ | refine MGo_c0 rfl (by decide) (.run rfl (stp_load_elp1 rfl tf_string rfl)) ?_ | refine MGo_c0 rfl (by decide) (.run rfl (stp_load_elpn rfl tf_string rfl rfl rfl)) ?_
          refine MGo_c0 rfl (by decide) (.run rfl (stp_call (avs := [_]) true rfl en_term_Var rfl rfl (by have hh := Var_ok u.name; rw [l18] at hh; exact hh) (fun _ => rfl) rfl)) ?_
          refine MGo_c0 rfl (by decide) (.run rfl (stp_not rfl rfl)) ?_
          refine MGo_c0 rfl (by decide) (.run rfl (stp_move (.inl rfl) rfl)) ?_
          first | refine MGo_c0 rfl (by decide) (.want rfl rfl rfl (by decide) (stp_fieldAddr rfl fo_api_Bind_1 rfl)) ?_ | refine MGo_c0 rfl (by decide) (.want rfl rfl rfl (by decide) (stp_fieldAddr_elp rfl fo_api_Bind_1 rfl)) ?_
          first | refine MGo_c0 rfl (by decide) (.want rfl rfl rfl (by decide) (stp_load_all rfl tf_api_Term rfl rfl rfl rfl)) ?_ | refine MGo_c0 rfl (by decide) (.want rfl rfl rfl (by decide) (stp_load rfl tf_api_Term rfl rfl rfl rfl rfl)) ?_ | refine MGo_c0 rfl (by decide) (.want rfl rfl rfl (by decide) (stp_load_elpa rfl tf_api_Term rfl rfl)) ?_ | refine MGo_c0 rfl (by decide) (.want rfl rfl rfl (by decide) (stp_load_elpn rfl tf_api_Term rfl rfl rfl)) ?_
          refine MGo_c0 rfl (by decide) (.want rfl rfl rfl (by decide) (stp_call (avs := [_]) true rfl en_term_May rfl rfl (by have hh := May_ok u.t huw.2; rw [l23] at hh; exact hh) (fun _ => rfl) rfl)) ?_
          refine MGo_c0 rfl (by decide) (.want rfl rfl rfl (by decide) (stp_not rfl rfl)) ?_
          refine MGo_c0 rfl (by decide) (.run rfl (stp_pick rfl rfl rfl)) ?_
          refine MGo_c0 rfl (by decide) (.run rfl (stp_move (.inl rfl) rfl)) ?_
          refine MGo_c0 rfl (by decide) (.want rfl rfl rfl (by decide) (stp_move (.inl rfl) rfl)) ?_
          refine MGo_c0 rfl (by decide) (.want rfl rfl rfl (by decide) (stp_binI (r := .bool true) rfl rfl rfl (congrArg (fun b => some (Value.bool b)) l28))) ?_
          refine MGo_c0 rfl (by decide) (.want rfl rfl rfl (by decide) (stp_move (.inl rfl) rfl)) ?_
          first | refine MGo_c0 rfl (by decide) (.want rfl rfl rfl (by decide) (stp_fieldAddr rfl fo_api_Bind_0 rfl)) ?_ | refine MGo_c0 rfl (by decide) (.want rfl rfl rfl (by decide) (stp_fieldAddr_elp rfl fo_api_Bind_0 rfl)) ?_
          first | refine MGo_c0 rfl (by decide) (.want rfl rfl rfl (by decide) (stp_load rfl tf_string rfl rfl rfl rfl rfl)) ?_ | refine MGo_c0 rfl (by decide) (.want rfl rfl rfl (by decide) (stp_load_elp1 rfl tf_string rfl)) ?_ | refine MGo_c0 rfl (by decide) (.want rfl rfl rfl (by decide) (stp_load_elpn rfl tf_string rfl rfl rfl)) ?_
          first | refine MGo_c0 rfl (by decide) (.want rfl rfl rfl (by decide) (stp_load rfl tf_S_api_Bind rfl rfl rfl rfl rfl)) ?_ | refine MGo_c0 rfl (by decide) (.want rfl rfl rfl (by decide) (stp_load_elp1 rfl tf_S_api_Bind rfl)) ?_ | refine MGo_c0 rfl (by decide) (.want rfl rfl rfl (by decide) (stp_load_elpn rfl tf_S_api_Bind rfl rfl rfl)) ?_
          refine MGo_c0 rfl (by decide) (.want rfl rfl rfl (by decide) (stp_move (.inl rfl) rfl)) ?_
          refine MGo_c0 rfl (by decide) (.want rfl rfl rfl (by decide) (stp_sub rfl rfl rfl (by omega))) ?_
          first | refine MGo_c0 rfl (by decide) (.want rfl rfl rfl (by decide) (stp_indexAddr rfl sl_S_api_Bind rfl rfl (by omega) (bdDs_get ha2))) ?_ | refine MGo_c0 rfl (by decide) (.want rfl rfl rfl (by decide) (stp_indexAddr_rowd rfl sl_S_api_Bind rfl rfl rfl (by omega) (bdDs_get ha2))) ?_ | refine MGo_c0 rfl (by decide) (.want rfl rfl rfl (by decide) (stp_indexAddr_row rfl sl_S_api_Bind rfl rfl rfl (by omega) (bdDs_get ha2) (by decide))) ?_
          first | refine MGo_c0 rfl (by decide) (.want rfl rfl rfl (by decide) (stp_fieldAddr rfl fo_api_Bind_0 rfl)) ?_ | refine MGo_c0 rfl (by decide) (.want rfl rfl rfl (by decide) (stp_fieldAddr_elp rfl fo_api_Bind_0 rfl)) ?_
          first | refine MGo_c0 rfl (by decide) (.want rfl rfl rfl (by decide) (stp_load rfl tf_string rfl rfl rfl rfl rfl)) ?_ | refine MGo_c0 rfl (by decide) (.want rfl rfl rfl (by decide) (stp_load_elp1 rfl tf_string rfl)) ?_ | refine MGo_c0 rfl (by decide) (.want rfl rfl rfl (by decide) (stp_load_elpn rfl tf_string rfl rfl rfl)) ?_
          refine MGo_nil ⟨rfl, rfl, ?_⟩
          refine awps_g0 rfl rfl rfl (by decide) rfl (by decide) (stp_binS rfl rfl rfl rfl) ?_
          refine awps_g0 rfl rfl rfl (by decide) rfl (by decide) (stp_pick rfl rfl rfl) ?_
          refine awps_stp0 rfl rfl (by decide) (stp_pick rfl rfl rfl) ?_
          refine awps_nil ?_
          refine thenQ_nil ?_
          refine awp_cond rfl (fun c2 => ?_) (fun c2 => ?_)
          · try simp only [↓str_beq_t, ↓str_beq_f, decide_eq_true_eq, decide_eq_false_iff_not, Bool.not_eq_true', Bool.not_eq_false', Int.not_lt, Int.not_le, beq_iff_eq, beq_eq_false_iff_ne, bne_iff_ne, bne_eq_false_iff_eq, ne_eq] at c2
            refine awp_seq ?_
            refine awp_region ?_
            refine awps_stp0 rfl rfl (by decide) (stp_move (.inr rfl) rfl) ?_
            refine awps_nil ?_
            refine thenQ_nil ?_
            refine awp_ret ?_
            refine inQ_ret (thenQ_ret (thenQ_ret (inQ_ret (thenQ_ret (?_)))))
            -- leaf 0F1Tl18Tl23Tl28T2T
            refine ret0 (noL hL) (.inl rfl) (resAs_tmp rfl (resAs_nil)) ?_ ?_
            · rfl
            refine ⟨bool_w ?_, rfl⟩
            symm
            rw [mayB]
            have hst : stepB l k = false := by
              rw [stepB_get hu]
              first | (rw [m18]; simp; done) | (rw [m23]; simp; done) | (rw [ha]; simp [ltS_no c2]; omega)
            have : (List.range l.length).all (stepB l) = false := List.all_eq_false.2 ⟨k, by simp; omega, by simp [hst]⟩
            rw [this]; simp
          try simp only [↓str_beq_t, ↓str_beq_f, decide_eq_true_eq, decide_eq_false_iff_not, Bool.not_eq_true', Bool.not_eq_false', Int.not_lt, Int.not_le, beq_iff_eq, beq_eq_false_iff_ne, bne_iff_ne, bne_eq_false_iff_eq, ne_eq] at c2
          refine awp_skip ?_
          refine inQ_nil ?_
          refine thenQ_nil ?_
          refine awp_region ?_
          refine awps_stp0 rfl rfl (by decide) (stp_add rfl rfl rfl (by omega)) ?_
          refine awps_stp0 rfl rfl (by decide) (stp_move (.inl rfl) rfl) ?_
          refine awps_nil ?_
          refine thenQ_nil ?_
          refine ⟨?_, ?_, ?_⟩
          · skip
            omega
          · skip
            refine ⟨by omega, fun j hj => ?_⟩
            by_cases hjk : j < k
            · exact hp.2 j hjk
            · rw [show j = k by omega, stepB_get hu, m18, m23]
              first | (rw [ha]; simp [ltS_yes c2]; done) | (simp; left; omega) | (simp; omega)
          exact sub_re (SubT.cons (lk_eq rfl (by first | rfl | simp)) (SubT.cons (lk_eq rfl (by first | rfl | simp)) (SubT.cons (lk_eq rfl (by first | rfl | simp)) (SubT.cons (lk_eq rfl (by first | rfl | simp)) (SubT.nil))))) (SubO.cons (ok_eq rfl (by rfl)) (SubO.nil)) rfl rfl (noL' (noL hL) _)
        have m28 := l28
        try simp only [↓str_beq_t, ↓str_beq_f, decide_eq_true_eq, decide_eq_false_iff_not, Bool.not_eq_true', Bool.not_eq_false', Int.not_lt, Int.not_le, beq_iff_eq, beq_eq_false_iff_ne, bne_iff_ne, bne_eq_false_iff_eq, ne_eq] at m28
        refine awp_drawG 22 mixed rfl rfl rfl rfl ?_
        first | refine MGo_c0 rfl (by decide) (.run rfl (stp_fieldAddr rfl fo_api_Bind_0 rfl)) ?_ | refine MGo_c0 rfl (by decide) (.run rfl (stp_fieldAddr_elp rfl fo_api_Bind_0 rfl)) ?_
        first | refine MGo_c0 rfl (by decide) (.run rfl (stp_load rfl tf_string rfl rfl rfl rfl rfl)) ?_ | refine MGo_c0 rfl (by decide) (.run rfl (stp_load_elp1 rfl tf_string rfl)) ?_ | refine MGo_c0 rfl (by decide) (.run rfl (stp_load_elpn rfl tf_string rfl rfl rfl)) ?_
        refine MGo_c0 rfl (by decide) (.run rfl (stp_call (avs := [_]) true rfl en_term_Var rfl rfl (by have hh := Var_ok u.name; rw [l18] at hh; exact hh) (fun _ => rfl) rfl)) ?_
        refine MGo_c0 rfl (by decide) (.run rfl (stp_not rfl rfl)) ?_
        refine MGo_c0 rfl (by decide) (.run rfl (stp_move (.inl rfl) rfl)) ?_
        first | refine MGo_c0 rfl (by decide) (.want rfl rfl rfl (by decide) (stp_fieldAddr rfl fo_api_Bind_1 rfl)) ?_ | refine MGo_c0 rfl (by decide) (.want rfl rfl rfl (by decide) (stp_fieldAddr_elp rfl fo_api_Bind_1 rfl)) ?_
        first | refine MGo_c0 rfl (by decide) (.want rfl rfl rfl (by decide) (stp_load_all rfl tf_api_Term rfl rfl rfl rfl)) ?_ | refine MGo_c0 rfl (by decide) (.want rfl rfl rfl (by decide) (stp_load rfl tf_api_Term rfl rfl rfl rfl rfl)) ?_ | refine MGo_c0 rfl (by decide) (.want rfl rfl rfl (by decide) (stp_load_elpa rfl tf_api_Term rfl rfl)) ?_ | refine MGo_c0 rfl (by decide) (.want rfl rfl rfl (by decide) (stp_load_elpn rfl tf_api_Term rfl rfl rfl)) ?_
        refine MGo_c0 rfl (by decide) (.want rfl rfl rfl (by decide) (stp_call (avs := [_]) true rfl en_term_May rfl rfl (by have hh := May_ok u.t huw.2; rw [l23] at hh; exact hh) (fun _ => rfl) rfl)) ?_
        refine MGo_c0 rfl (by decide) (.want rfl rfl rfl (by decide) (stp_not rfl rfl)) ?_
        refine MGo_c0 rfl (by decide) (.run rfl (stp_pick rfl rfl rfl)) ?_
        refine MGo_c0 rfl (by decide) (.run rfl (stp_move (.inl rfl) rfl)) ?_
        refine MGo_c0 rfl (by decide) (.want rfl rfl rfl (by decide) (stp_move (.inl rfl) rfl)) ?_
        refine MGo_c0 rfl (by decide) (.want rfl rfl rfl (by decide) (stp_binI (r := .bool false) rfl rfl rfl (congrArg (fun b => some (Value.bool b)) l28))) ?_
        refine MGo_c0 rfl (by decide) (.want rfl rfl rfl (by decide) (stp_move (.inl rfl) rfl)) ?_
        refine MGo_c0 rfl (by decide) (.skip rfl rfl rfl (by decide) (by decide)) ?_
        refine MGo_c0 rfl (by decide) (.skip rfl rfl rfl (by decide) (by decide)) ?_
        refine MGo_c0 rfl (by decide) (.skip rfl rfl rfl (by decide) (by decide)) ?_
        refine MGo_c0 rfl (by decide) (.skip rfl rfl rfl (by decide) (by decide)) ?_
        refine MGo_c0 rfl (by decide) (.skip rfl rfl rfl (by decide) (by decide)) ?_
        refine MGo_c0 rfl (by decide) (.skip rfl rfl rfl (by decide) (by decide)) ?_
        refine MGo_c0 rfl (by decide) (.skip rfl rfl rfl (by decide) (by decide)) ?_
        refine MGo_c0 rfl (by decide) (.skip rfl rfl rfl (by decide) (by decide)) ?_
        refine MGo_nil ⟨rfl, rfl, ?_⟩
        refine awps_gs rfl rfl rfl rfl (by decide) rfl (by decide) ?_
        refine awps_g0 rfl rfl rfl (by decide) rfl (by decide) (stp_pick rfl rfl rfl) ?_
        refine awps_stp0 rfl rfl (by decide) (stp_pick rfl rfl rfl) ?_
        refine awps_nil ?_
        refine thenQ_nil ?_
        refine awp_condF rfl ?_
        refine awp_skip ?_
        refine inQ_nil ?_
        refine thenQ_nil ?_
        refine awp_region ?_
        refine awps_stp0 rfl rfl (by decide) (stp_add rfl rfl rfl (by omega)) ?_
        refine awps_stp0 rfl rfl (by decide) (stp_move (.inl rfl) rfl) ?_
        refine awps_nil ?_
        refine thenQ_nil ?_
        refine ⟨?_, ?_, ?_⟩
        · skip
          omega
        · skip
          refine ⟨by omega, fun j hj => ?_⟩
          by_cases hjk : j < k
          · exact hp.2 j hjk
          · rw [show j = k by omega, stepB_get hu, m18, m23]
            first | (rw [ha]; simp [ltS_yes c2]; done) | (simp; left; omega) | (simp; omega)
        exact sub_re (SubT.cons (lk_eq rfl (by first | rfl | simp)) (SubT.cons (lk_eq rfl (by first | rfl | simp)) (SubT.cons (lk_eq rfl (by first | rfl | simp)) (SubT.cons (lk_eq rfl (by first | rfl | simp)) (SubT.nil))))) (SubO.cons (ok_eq rfl (by rfl)) (SubO.nil)) rfl rfl (noL' (noL hL) _)
      have m23 := l23
      try simp only [↓str_beq_t, ↓str_beq_f, decide_eq_true_eq, decide_eq_false_iff_not, Bool.not_eq_true', Bool.not_eq_false', Int.not_lt, Int.not_le, beq_iff_eq, beq_eq_false_iff_ne, bne_iff_ne, bne_eq_false_iff_eq, ne_eq] at m23
      rcases Bool.eq_false_or_eq_true (decide ((k : Int) > 0)) with l28 | l28
      · have m28 := l28
        try simp only [↓str_beq_t, ↓str_beq_f, decide_eq_true_eq, decide_eq_false_iff_not, Bool.not_eq_true', Bool.not_eq_false', Int.not_lt, Int.not_le, beq_iff_eq, beq_eq_false_iff_ne, bne_iff_ne, bne_eq_false_iff_eq, ne_eq] at m28
        obtain ⟨a, ha⟩ := get_of_lt (l := l) (k := k - 1) (by omega)
        have ha2 : l[((k : Int) - 1).toNat]? = some a := by rw [show ((k : Int) - 1).toNat = k - 1 by omega]; exact ha
        refine awp_drawG 22 mixed rfl rfl rfl rfl ?_
        first | refine MGo_c0 rfl (by decide) (.run rfl (stp_fieldAddr rfl fo_api_Bind_0 rfl)) ?_ | refine MGo_c0 rfl (by decide) (.run rfl (stp_fieldAddr_elp rfl fo_api_Bind_0 rfl)) ?_
        first | refine MGo_c0 rfl (by decide) (.run rfl (stp_load rfl tf_string rfl rfl rfl rfl rfl)) ?_ | refine MGo_c0 rfl (by decide) (.run rfl (stp_load_elp1 rfl tf_string rfl)) ?_ | refine MGo_c0 rfl (by decide) (.run rfl (stp_load_elpn rfl tf_string rfl rfl rfl)) ?_
        refine MGo_c0 rfl (by decide) (.run rfl (stp_call (avs := [_]) true rfl en_term_Var rfl rfl (by have hh := Var_ok u.name; rw [l18] at hh; exact hh) (fun _ => rfl) rfl)) ?_
        refine MGo_c0 rfl (by decide) (.run rfl (stp_not rfl rfl)) ?_
        refine MGo_c0 rfl (by decide) (.run rfl (stp_move (.inl rfl) rfl)) ?_
        first | refine MGo_c0 rfl (by decide) (.want rfl rfl rfl (by decide) (stp_fieldAddr rfl fo_api_Bind_1 rfl)) ?_ | refine MGo_c0 rfl (by decide) (.want rfl rfl rfl (by decide) (stp_fieldAddr_elp rfl fo_api_Bind_1 rfl)) ?_
        first | refine MGo_c0 rfl (by decide) (.want rfl rfl rfl (by decide) (stp_load_all rfl tf_api_Term rfl rfl rfl rfl)) ?_ | refine MGo_c0 rfl (by decide) (.want rfl rfl rfl (by decide) (stp_load rfl tf_api_Term rfl rfl rfl rfl rfl)) ?_ | refine MGo_c0 rfl (by decide) (.want rfl rfl rfl (by decide) (stp_load_elpa rfl tf_api_Term rfl rfl)) ?_ | refine MGo_c0 rfl (by decide) (.want rfl rfl rfl (by decide) (stp_load_elpn rfl tf_api_Term rfl rfl rfl)) ?_
        refine MGo_c0 rfl (by decide) (.want rfl rfl rfl (by decide) (stp_call (avs := [_]) true rfl en_term_May rfl rfl (by have hh := May_ok u.t huw.2; rw [l23] at hh; exact hh) (fun _ => rfl) rfl)) ?_
        refine MGo_c0 rfl (by decide) (.want rfl rfl rfl (by decide) (stp_not rfl rfl)) ?_
        refine MGo_c0 rfl (by decide) (.run rfl (stp_pick rfl rfl rfl)) ?_
        refine MGo_c0 rfl (by decide) (.run rfl (stp_move (.inl rfl) rfl)) ?_
        refine MGo_c0 rfl (by decide) (.skip rfl rfl rfl (by decide) (by decide)) ?_
        refine MGo_c0 rfl (by decide) (.skip rfl rfl rfl (by decide) (by decide)) ?_
        refine MGo_c0 rfl (by decide) (.skip rfl rfl rfl (by decide) (by decide)) ?_
        refine MGo_c0 rfl (by decide) (.skipu rfl rfl rfl (by decide)) ?_
        refine MGo_c0 rfl (by decide) (.skipu rfl rfl rfl (by decide)) ?_
        refine MGo_c0 rfl (by decide) (.skipu rfl rfl rfl (by decide)) ?_
        refine MGo_c0 rfl (by decide) (.skipu rfl rfl rfl (by decide)) ?_
        refine MGo_c0 rfl (by decide) (.skipu rfl rfl rfl (by decide)) ?_
        refine MGo_c0 rfl (by decide) (.skipu rfl rfl rfl (by decide)) ?_
        refine MGo_c0 rfl (by decide) (.skipu rfl rfl rfl (by decide)) ?_
        refine MGo_c0 rfl (by decide) (.skipu rfl rfl rfl (by decide)) ?_
        refine MGo_nil ⟨rfl, rfl, ?_⟩
        refine awps_gu rfl rfl rfl (by decide) rfl (by decide) ?_
        refine awps_gs rfl rfl rfl rfl (by decide) rfl (by decide) ?_
        refine awps_stp0 rfl rfl (by decide) (stp_pick rfl rfl rfl) ?_
        refine awps_nil ?_
        refine thenQ_nil ?_
        refine awp_condT rfl ?_
        refine awp_seq ?_
        refine awp_region ?_
        refine awps_stp0 rfl rfl (by decide) (stp_move (.inr rfl) rfl) ?_
        refine awps_nil ?_
        refine thenQ_nil ?_
        refine awp_ret ?_
        refine inQ_ret (thenQ_ret (thenQ_ret (inQ_ret (thenQ_ret (?_)))))
        -- leaf 0F1Tl18Tl23Fl28T
        refine ret0 (noL hL) (.inl rfl) (resAs_tmp rfl (resAs_nil)) ?_ ?_
        · rfl
        refine ⟨bool_w ?_, rfl⟩
        symm
        rw [mayB]
        have hst : stepB l k = false := by
          rw [stepB_get hu]
          first | (rw [m18]; simp; done) | (rw [m23]; simp; done) | (rw [ha]; simp [ltS_no c2]; omega)
        have : (List.range l.length).all (stepB l) = false := List.all_eq_false.2 ⟨k, by simp; omega, by simp [hst]⟩
        rw [this]; simp
      have m28 := l28
      try simp only [↓str_beq_t, ↓str_beq_f, decide_eq_true_eq, decide_eq_false_iff_not, Bool.not_eq_true', Bool.not_eq_false', Int.not_lt, Int.not_le, beq_iff_eq, beq_eq_false_iff_ne, bne_iff_ne, bne_eq_false_iff_eq, ne_eq] at m28
      refine awp_drawG 22 mixed rfl rfl rfl rfl ?_
      first | refine MGo_c0 rfl (by decide) (.run rfl (stp_fieldAddr rfl fo_api_Bind_0 rfl)) ?_ | refine MGo_c0 rfl (by decide) (.run rfl (stp_fieldAddr_elp rfl fo_api_Bind_0 rfl)) ?_
      first | refine MGo_c0 rfl (by decide) (.run rfl (stp_load rfl tf_string rfl rfl rfl rfl rfl)) ?_ | refine MGo_c0 rfl (by decide) (.run rfl (stp_load_elp1 rfl tf_string rfl)) ?_ | refine MGo_c0 rfl (by decide) (.run rfl (stp_load_elpn rfl tf_string rfl rfl rfl)) ?_
      refine MGo_c0 rfl (by decide) (.run rfl (stp_call (avs := [_]) true rfl en_term_Var rfl rfl (by have hh := Var_ok u.name; rw [l18] at hh; exact hh) (fun _ => rfl) rfl)) ?_
      refine MGo_c0 rfl (by decide) (.run rfl (stp_not rfl rfl)) ?_
      refine MGo_c0 rfl (by decide) (.run rfl (stp_move (.inl rfl) rfl)) ?_
      first | refine MGo_c0 rfl (by decide) (.want rfl rfl rfl (by decide) (stp_fieldAddr rfl fo_api_Bind_1 rfl)) ?_ | refine MGo_c0 rfl (by decide) (.want rfl rfl rfl (by decide) (stp_fieldAddr_elp rfl fo_api_Bind_1 rfl)) ?_
      first | refine MGo_c0 rfl (by decide) (.want rfl rfl rfl (by decide) (stp_load_all rfl tf_api_Term rfl rfl rfl rfl)) ?_ | refine MGo_c0 rfl (by decide) (.want rfl rfl rfl (by decide) (stp_load rfl tf_api_Term rfl rfl rfl rfl rfl)) ?_ | refine MGo_c0 rfl (by decide) (.want rfl rfl rfl (by decide) (stp_load_elpa rfl tf_api_Term rfl rfl)) ?_ | refine MGo_c0 rfl (by decide) (.want rfl rfl rfl (by decide) (stp_load_elpn rfl tf_api_Term rfl rfl rfl)) ?_
      refine MGo_c0 rfl (by decide) (.want rfl rfl rfl (by decide) (stp_call (avs := [_]) true rfl en_term_May rfl rfl (by have hh := May_ok u.t huw.2; rw [l23] at hh; exact hh) (fun _ => rfl) rfl)) ?_
      refine MGo_c0 rfl (by decide) (.want rfl rfl rfl (by decide) (stp_not rfl rfl)) ?_
      refine MGo_c0 rfl (by decide) (.run rfl (stp_pick rfl rfl rfl)) ?_
      refine MGo_c0 rfl (by decide) (.run rfl (stp_move (.inl rfl) rfl)) ?_
      refine MGo_c0 rfl (by decide) (.skip rfl rfl rfl (by decide) (by decide)) ?_
      refine MGo_c0 rfl (by decide) (.skip rfl rfl rfl (by decide) (by decide)) ?_
      refine MGo_c0 rfl (by decide) (.skip rfl rfl rfl (by decide) (by decide)) ?_
      refine MGo_c0 rfl (by decide) (.skipu rfl rfl rfl (by decide)) ?_
      refine MGo_c0 rfl (by decide) (.skipu rfl rfl rfl (by decide)) ?_
      refine MGo_c0 rfl (by decide) (.skipu rfl rfl rfl (by decide)) ?_
      refine MGo_c0 rfl (by decide) (.skipu rfl rfl rfl (by decide)) ?_
      refine MGo_c0 rfl (by decide) (.skipu rfl rfl rfl (by decide)) ?_
      refine MGo_c0 rfl (by decide) (.skipu rfl rfl rfl (by decide)) ?_
      refine MGo_c0 rfl (by decide) (.skipu rfl rfl rfl (by decide)) ?_
      refine MGo_c0 rfl (by decide) (.skipu rfl rfl rfl (by decide)) ?_
      refine MGo_nil ⟨rfl, rfl, ?_⟩
      refine awps_gu rfl rfl rfl (by decide) rfl (by decide) ?_
      refine awps_gs rfl rfl rfl rfl (by decide) rfl (by decide) ?_
      refine awps_stp0 rfl rfl (by decide) (stp_pick rfl rfl rfl) ?_
      refine awps_nil ?_
      refine thenQ_nil ?_
      refine awp_condT rfl ?_
      refine awp_seq ?_
      refine awp_region ?_
      refine awps_stp0 rfl rfl (by decide) (stp_move (.inr rfl) rfl) ?_
      refine awps_nil ?_
      refine thenQ_nil ?_
      refine awp_ret ?_
      refine inQ_ret (thenQ_ret (thenQ_ret (inQ_ret (thenQ_ret (?_)))))
      -- leaf 0F1Tl18Tl23Fl28F
      refine ret0 (noL hL) (.inl rfl) (resAs_tmp rfl (resAs_nil)) ?_ ?_
      · rfl
      refine ⟨bool_w ?_, rfl⟩
      symm
      rw [mayB]
      have hst : stepB l k = false := by
        rw [stepB_get hu]
        first | (rw [m18]; simp; done) | (rw [m23]; simp; done) | (rw [ha]; simp [ltS_no c2]; omega)
      have : (List.range l.length).all (stepB l) = false := List.all_eq_false.2 ⟨k, by simp; omega, by simp [hst]⟩
      rw [this]; simp
    have m18 := l18
    try simp only [↓str_beq_t, ↓str_beq_f, decide_eq_true_eq, decide_eq_false_iff_not, Bool.not_eq_true', Bool.not_eq_false', Int.not_lt, Int.not_le, beq_iff_eq, beq_eq_false_iff_ne, bne_iff_ne, bne_eq_false_iff_eq, ne_eq] at m18
    rcases Bool.eq_false_or_eq_true (mayT u.t) with l23 | l23
    · have m23 := l23
      try simp only [↓str_beq_t, ↓str_beq_f, decide_eq_true_eq, decide_eq_false_iff_not, Bool.not_eq_true', Bool.not_eq_false', Int.not_lt, Int.not_le, beq_iff_eq, beq_eq_false_iff_ne, bne_iff_ne, bne_eq_false_iff_eq, ne_eq] at m23
      rcases Bool.eq_false_or_eq_true (decide ((k : Int) > 0)) with l28 | l28
      · have m28 := l28
        try simp only [↓str_beq_t, ↓str_beq_f, decide_eq_true_eq, decide_eq_false_iff_not, Bool.not_eq_true', Bool.not_eq_false', Int.not_lt, Int.not_le, beq_iff_eq, beq_eq_false_iff_ne, bne_iff_ne, bne_eq_false_iff_eq, ne_eq] at m28
        obtain ⟨a, ha⟩ := get_of_lt (l := l) (k := k - 1) (by omega)
        have ha2 : l[((k : Int) - 1).toNat]? = some a := by rw [show ((k : Int) - 1).toNat = k - 1 by omega]; exact ha
        refine awp_drawG 22 mixed rfl rfl rfl rfl ?_
        first | refine MGo_c0 rfl (by decide) (.run rfl (stp_fieldAddr rfl fo_api_Bind_0 rfl)) ?_ | refine MGo_c0 rfl (by decide) (.run rfl (stp_fieldAddr_elp rfl fo_api_Bind_0 rfl)) ?_
        first | refine MGo_c0 rfl (by decide) (.run rfl (stp_load rfl tf_string rfl rfl rfl rfl rfl)) ?_ | refine MGo_c0 rfl (by decide) (.run rfl (stp_load_elp1 rfl tf_string rfl)) ?_ | refine MGo_c0 rfl (by decide) (.run rfl (stp_load_elpn rfl tf_string rfl rfl rfl)) ?_
        refine MGo_c0 rfl (by decide) (.run rfl (stp_call (avs := [_]) true rfl en_term_Var rfl rfl (by have hh := Var_ok u.name; rw [l18] at hh; exact hh) (fun _ => rfl) rfl)) ?_
        refine MGo_c0 rfl (by decide) (.run rfl (stp_not rfl rfl)) ?_
        refine MGo_c0 rfl (by decide) (.run rfl (stp_move (.inl rfl) rfl)) ?_
        refine MGo_c0 rfl (by decide) (.skip rfl rfl rfl (by decide) (by decide)) ?_
        refine MGo_c0 rfl (by decide) (.skip rfl rfl rfl (by decide) (by decide)) ?_
        refine MGo_c0 rfl (by decide) (.skip rfl rfl rfl (by decide) (by decide)) ?_
        refine MGo_c0 rfl (by decide) (.skip rfl rfl rfl (by decide) (by decide)) ?_
        refine MGo_c0 rfl (by decide) (.run rfl (stp_pick rfl rfl rfl)) ?_
        refine MGo_c0 rfl (by decide) (.run rfl (stp_move (.inl rfl) rfl)) ?_
        refine MGo_c0 rfl (by decide) (.skip rfl rfl rfl (by decide) (by decide)) ?_
        refine MGo_c0 rfl (by decide) (.skip rfl rfl rfl (by decide) (by decide)) ?_
        refine MGo_c0 rfl (by decide) (.skip rfl rfl rfl (by decide) (by decide)) ?_
        refine MGo_c0 rfl (by decide) (.skipu rfl rfl rfl (by decide)) ?_
        refine MGo_c0 rfl (by decide) (.skipu rfl rfl rfl (by decide)) ?_
        refine MGo_c0 rfl (by decide) (.skipu rfl rfl rfl (by decide)) ?_
        refine MGo_c0 rfl (by decide) (.skipu rfl rfl rfl (by decide)) ?_
        refine MGo_c0 rfl (by decide) (.skipu rfl rfl rfl (by decide)) ?_
        refine MGo_c0 rfl (by decide) (.skipu rfl rfl rfl (by decide)) ?_
        refine MGo_c0 rfl (by decide) (.skipu rfl rfl rfl (by decide)) ?_
        refine MGo_c0 rfl (by decide) (.skipu rfl rfl rfl (by decide)) ?_
        refine MGo_nil ⟨rfl, rfl, ?_⟩
        refine awps_gu rfl rfl rfl (by decide) rfl (by decide) ?_
        refine awps_gs rfl rfl rfl rfl (by decide) rfl (by decide) ?_
        refine awps_stp0 rfl rfl (by decide) (stp_pick rfl rfl rfl) ?_
        refine awps_nil ?_
        refine thenQ_nil ?_
        refine awp_condT rfl ?_
        refine awp_seq ?_
        refine awp_region ?_
        refine awps_stp0 rfl rfl (by decide) (stp_move (.inr rfl) rfl) ?_
        refine awps_nil ?_
        refine thenQ_nil ?_
        refine awp_ret ?_
        refine inQ_ret (thenQ_ret (thenQ_ret (inQ_ret (thenQ_ret (?_)))))
        -- leaf 0F1Tl18Fl23Tl28T
        refine ret0 (noL hL) (.inl rfl) (resAs_tmp rfl (resAs_nil)) ?_ ?_
        · rfl
        refine ⟨bool_w ?_, rfl⟩
        symm
        rw [mayB]
        have hst : stepB l k = false := by
          rw [stepB_get hu]
          first | (rw [m18]; simp; done) | (rw [m23]; simp; done) | (rw [ha]; simp [ltS_no c2]; omega)
        have : (List.range l.length).all (stepB l) = false := List.all_eq_false.2 ⟨k, by simp; omega, by simp [hst]⟩
        rw [this]; simp
      have m28 := l28
      try simp only [↓str_beq_t, ↓str_beq_f, decide_eq_true_eq, decide_eq_false_iff_not, Bool.not_eq_true', Bool.not_eq_false', Int.not_lt, Int.not_le, beq_iff_eq, beq_eq_false_iff_ne, bne_iff_ne, bne_eq_false_iff_eq, ne_eq] at m28
      refine awp_drawG 22 mixed rfl rfl rfl rfl ?_
      first | refine MGo_c0 rfl (by decide) (.run rfl (stp_fieldAddr rfl fo_api_Bind_0 rfl)) ?_ | refine MGo_c0 rfl (by decide) (.run rfl (stp_fieldAddr_elp rfl fo_api_Bind_0 rfl)) ?_
      first | refine MGo_c0 rfl (by decide) (.run rfl (stp_load rfl tf_string rfl rfl rfl rfl rfl)) ?_ | refine MGo_c0 rfl (by decide) (.run rfl (stp_load_elp1 rfl tf_string rfl)) ?_ | refine MGo_c0 rfl (by decide) (.run rfl (stp_load_elpn rfl tf_string rfl rfl rfl)) ?_
      refine MGo_c0 rfl (by decide) (.run rfl (stp_call (avs := [_]) true rfl en_term_Var rfl rfl (by have hh := Var_ok u.name; rw [l18] at hh; exact hh) (fun _ => rfl) rfl)) ?_
      refine MGo_c0 rfl (by decide) (.run rfl (stp_not rfl rfl)) ?_
      refine MGo_c0 rfl (by decide) (.run rfl (stp_move (.inl rfl) rfl)) ?_
      refine MGo_c0 rfl (by decide) (.skip rfl rfl rfl (by decide) (by decide)) ?_
      refine MGo_c0 rfl (by decide) (.skip rfl rfl rfl (by decide) (by decide)) ?_
      refine MGo_c0 rfl (by decide) (.skip rfl rfl rfl (by decide) (by decide)) ?_
      refine MGo_c0 rfl (by decide) (.skip rfl rfl rfl (by decide) (by decide)) ?_
      refine MGo_c0 rfl (by decide) (.run rfl (stp_pick rfl rfl rfl)) ?_
      refine MGo_c0 rfl (by decide) (.run rfl (stp_move (.inl rfl) rfl)) ?_
      refine MGo_c0 rfl (by decide) (.skip rfl rfl rfl (by decide) (by decide)) ?_
      refine MGo_c0 rfl (by decide) (.skip rfl rfl rfl (by decide) (by decide)) ?_
      refine MGo_c0 rfl (by decide) (.skip rfl rfl rfl (by decide) (by decide)) ?_
      refine MGo_c0 rfl (by decide) (.skipu rfl rfl rfl (by decide)) ?_
      refine MGo_c0 rfl (by decide) (.skipu rfl rfl rfl (by decide)) ?_
      refine MGo_c0 rfl (by decide) (.skipu rfl rfl rfl (by decide)) ?_
      refine MGo_c0 rfl (by decide) (.skipu rfl rfl rfl (by decide)) ?_
      refine MGo_c0 rfl (by decide) (.skipu rfl rfl rfl (by decide)) ?_
      refine MGo_c0 rfl (by decide) (.skipu rfl rfl rfl (by decide)) ?_
      refine MGo_c0 rfl (by decide) (.skipu rfl rfl rfl (by decide)) ?_
      refine MGo_c0 rfl (by decide) (.skipu rfl rfl rfl (by decide)) ?_
      refine MGo_nil ⟨rfl, rfl, ?_⟩
      refine awps_gu rfl rfl rfl (by decide) rfl (by decide) ?_
      refine awps_gs rfl rfl rfl rfl (by decide) rfl (by decide) ?_
      refine awps_stp0 rfl rfl (by decide) (stp_pick rfl rfl rfl) ?_
      refine awps_nil ?_
      refine thenQ_nil ?_
      refine awp_condT rfl ?_
      refine awp_seq ?_
      refine awp_region ?_
      refine awps_stp0 rfl rfl (by decide) (stp_move (.inr rfl) rfl) ?_
      refine awps_nil ?_
      refine thenQ_nil ?_
      refine awp_ret ?_
      refine inQ_ret (thenQ_ret (thenQ_ret (inQ_ret (thenQ_ret (?_)))))
      -- leaf 0F1Tl18Fl23Tl28F
      refine ret0 (noL hL) (.inl rfl) (resAs_tmp rfl (resAs_nil)) ?_ ?_
      · rfl
      refine ⟨bool_w ?_, rfl⟩
      symm
      rw [mayB]
      have hst : stepB l k = false := by
        rw [stepB_get hu]
        first | (rw [m18]; simp; done) | (rw [m23]; simp; done) | (rw [ha]; simp [ltS_no c2]; omega)
      have : (List.range l.length).all (stepB l) = false := List.all_eq_false.2 ⟨k, by simp; omega, by simp [hst]⟩
      rw [this]; simp
    have m23 := l23
    try simp only [↓str_beq_t, ↓str_beq_f, decide_eq_true_eq, decide_eq_false_iff_not, Bool.not_eq_true', Bool.not_eq_false', Int.not_lt, Int.not_le, beq_iff_eq, beq_eq_false_iff_ne, bne_iff_ne, bne_eq_false_iff_eq, ne_eq] at m23
    rcases Bool.eq_false_or_eq_true (decide ((k : Int) > 0)) with l28 | l28
    · have m28 := l28
      try simp only [↓str_beq_t, ↓str_beq_f, decide_eq_true_eq, decide_eq_false_iff_not, Bool.not_eq_true', Bool.not_eq_false', Int.not_lt, Int.not_le, beq_iff_eq, beq_eq_false_iff_ne, bne_iff_ne, bne_eq_false_iff_eq, ne_eq] at m28
      obtain ⟨a, ha⟩ := get_of_lt (l := l) (k := k - 1) (by omega)
      have ha2 : l[((k : Int) - 1).toNat]? = some a := by rw [show ((k : Int) - 1).toNat = k - 1 by omega]; exact ha
      refine awp_drawG 22 mixed rfl rfl rfl rfl ?_
      first | refine MGo_c0 rfl (by decide) (.run rfl (stp_fieldAddr rfl fo_api_Bind_0 rfl)) ?_ | refine MGo_c0 rfl (by decide) (.run rfl (stp_fieldAddr_elp rfl fo_api_Bind_0 rfl)) ?_
      first | refine MGo_c0 rfl (by decide) (.run rfl (stp_load rfl tf_string rfl rfl rfl rfl rfl)) ?_ | refine MGo_c0 rfl (by decide) (.run rfl (stp_load_elp1 rfl tf_string rfl)) ?_ | refine MGo_c0 rfl (by decide) (.run rfl (stp_load_elpn rfl tf_string rfl rfl rfl)) ?_
      refine MGo_c0 rfl (by decide) (.run rfl (stp_call (avs := [_]) true rfl en_term_Var rfl rfl (by have hh := Var_ok u.name; rw [l18] at hh; exact hh) (fun _ => rfl) rfl)) ?_
      refine MGo_c0 rfl (by decide) (.run rfl (stp_not rfl rfl)) ?_
      refine MGo_c0 rfl (by decide) (.run rfl (stp_move (.inl rfl) rfl)) ?_
      refine MGo_c0 rfl (by decide) (.skip rfl rfl rfl (by decide) (by decide)) ?_
      refine MGo_c0 rfl (by decide) (.skip rfl rfl rfl (by decide) (by decide)) ?_
      refine MGo_c0 rfl (by decide) (.skip rfl rfl rfl (by decide) (by decide)) ?_
      refine MGo_c0 rfl (by decide) (.skip rfl rfl rfl (by decide) (by decide)) ?_
      refine MGo_c0 rfl (by decide) (.run rfl (stp_pick rfl rfl rfl)) ?_
      refine MGo_c0 rfl (by decide) (.run rfl (stp_move (.inl rfl) rfl)) ?_
      refine MGo_c0 rfl (by decide) (.skip rfl rfl rfl (by decide) (by decide)) ?_
      refine MGo_c0 rfl (by decide) (.skip rfl rfl rfl (by decide) (by decide)) ?_
      refine MGo_c0 rfl (by decide) (.skip rfl rfl rfl (by decide) (by decide)) ?_
      refine MGo_c0 rfl (by decide) (.skipu rfl rfl rfl (by decide)) ?_
      refine MGo_c0 rfl (by decide) (.skipu rfl rfl rfl (by decide)) ?_
      refine MGo_c0 rfl (by decide) (.skipu rfl rfl rfl (by decide)) ?_
      refine MGo_c0 rfl (by decide) (.skipu rfl rfl rfl (by decide)) ?_
      refine MGo_c0 rfl (by decide) (.skipu rfl rfl rfl (by decide)) ?_
      refine MGo_c0 rfl (by decide) (.skipu rfl rfl rfl (by decide)) ?_
      refine MGo_c0 rfl (by decide) (.skipu rfl rfl rfl (by decide)) ?_
      refine MGo_c0 rfl (by decide) (.skipu rfl rfl rfl (by decide)) ?_
      refine MGo_nil ⟨rfl, rfl, ?_⟩
      refine awps_gu rfl rfl rfl (by decide) rfl (by decide) ?_
      refine awps_gs rfl rfl rfl rfl (by decide) rfl (by decide) ?_
      refine awps_stp0 rfl rfl (by decide) (stp_pick rfl rfl rfl) ?_
      refine awps_nil ?_
      refine thenQ_nil ?_
      refine awp_condT rfl ?_
      refine awp_seq ?_
      refine awp_region ?_
      refine awps_stp0 rfl rfl (by decide) (stp_move (.inr rfl) rfl) ?_
      refine awps_nil ?_
      refine thenQ_nil ?_
      refine awp_ret ?_
      refine inQ_ret (thenQ_ret (thenQ_ret (inQ_ret (thenQ_ret (?_)))))
      -- leaf 0F1Tl18Fl23Fl28T
      refine ret0 (noL hL) (.inl rfl) (resAs_tmp rfl (resAs_nil)) ?_ ?_
      · rfl
      refine ⟨bool_w ?_, rfl⟩
      symm
      rw [mayB]
      have hst : stepB l k = false := by
        rw [stepB_get hu]
        first | (rw [m18]; simp; done) | (rw [m23]; simp; done) | (rw [ha]; simp [ltS_no c2]; omega)
      have : (List.range l.length).all (stepB l) = false := List.all_eq_false.2 ⟨k, by simp; omega, by simp [hst]⟩
      rw [this]; simp
    have m28 := l28
    try simp only [↓str_beq_t, ↓str_beq_f, decide_eq_true_eq, decide_eq_false_iff_not, Bool.not_eq_true', Bool.not_eq_false', Int.not_lt, Int.not_le, beq_iff_eq, beq_eq_false_iff_ne, bne_iff_ne, bne_eq_false_iff_eq, ne_eq] at m28
    refine awp_drawG 22 mixed rfl rfl rfl rfl ?_
    first | refine MGo_c0 rfl (by decide) (.run rfl (stp_fieldAddr rfl fo_api_Bind_0 rfl)) ?_ | refine MGo_c0 rfl (by decide) (.run rfl (stp_fieldAddr_elp rfl fo_api_Bind_0 rfl)) ?_
    first | refine MGo_c0 rfl (by decide) (.run rfl (stp_load rfl tf_string rfl rfl rfl rfl rfl)) ?_ | refine MGo_c0 rfl (by decide) (.run rfl (stp_load_elp1 rfl tf_string rfl)) ?_ | refine MGo_c0 rfl (by decide) (.run rfl (stp_load_elpn rfl tf_string rfl rfl rfl)) ?_
    refine MGo_c0 rfl (by decide) (.run rfl (stp_call (avs := [_]) true rfl en_term_Var rfl rfl (by have hh := Var_ok u.name; rw [l18] at hh; exact hh) (fun _ => rfl) rfl)) ?_
    refine MGo_c0 rfl (by decide) (.run rfl (stp_not rfl rfl)) ?_
    refine MGo_c0 rfl (by decide) (.run rfl (stp_move (.inl rfl) rfl)) ?_
    refine MGo_c0 rfl (by decide) (.skip rfl rfl rfl (by decide) (by decide)) ?_
    refine MGo_c0 rfl (by decide) (.skip rfl rfl rfl (by decide) (by decide)) ?_
    refine MGo_c0 rfl (by decide) (.skip rfl rfl rfl (by decide) (by decide)) ?_
    refine MGo_c0 rfl (by decide) (.skip rfl rfl rfl (by decide) (by decide)) ?_
    refine MGo_c0 rfl (by decide) (.run rfl (stp_pick rfl rfl rfl)) ?_
    refine MGo_c0 rfl (by decide) (.run rfl (stp_move (.inl rfl) rfl)) ?_
    refine MGo_c0 rfl (by decide) (.skip rfl rfl rfl (by decide) (by decide)) ?_
    refine MGo_c0 rfl (by decide) (.skip rfl rfl rfl (by decide) (by decide)) ?_
    refine MGo_c0 rfl (by decide) (.skip rfl rfl rfl (by decide) (by decide)) ?_
    refine MGo_c0 rfl (by decide) (.skipu rfl rfl rfl (by decide)) ?_
    refine MGo_c0 rfl (by decide) (.skipu rfl rfl rfl (by decide)) ?_
    refine MGo_c0 rfl (by decide) (.skipu rfl rfl rfl (by decide)) ?_
    refine MGo_c0 rfl (by decide) (.skipu rfl rfl rfl (by decide)) ?_
    refine MGo_c0 rfl (by decide) (.skipu rfl rfl rfl (by decide)) ?_
    refine MGo_c0 rfl (by decide) (.skipu rfl rfl rfl (by decide)) ?_
    refine MGo_c0 rfl (by decide) (.skipu rfl rfl rfl (by decide)) ?_
    refine MGo_c0 rfl (by decide) (.skipu rfl rfl rfl (by decide)) ?_
    refine MGo_nil ⟨rfl, rfl, ?_⟩
    refine awps_gu rfl rfl rfl (by decide) rfl (by decide) ?_
    refine awps_gs rfl rfl rfl rfl (by decide) rfl (by decide) ?_
    refine awps_stp0 rfl rfl (by decide) (stp_pick rfl rfl rfl) ?_
    refine awps_nil ?_
    refine thenQ_nil ?_
    refine awp_condT rfl ?_
    refine awp_seq ?_
    refine awp_region ?_
    refine awps_stp0 rfl rfl (by decide) (stp_move (.inr rfl) rfl) ?_
    refine awps_nil ?_
    refine thenQ_nil ?_
    refine awp_ret ?_
    refine inQ_ret (thenQ_ret (thenQ_ret (inQ_ret (thenQ_ret (?_)))))
    -- leaf 0F1Tl18Fl23Fl28F
    refine ret0 (noL hL) (.inl rfl) (resAs_tmp rfl (resAs_nil)) ?_ ?_
    · rfl
    refine ⟨bool_w ?_, rfl⟩
    symm
    rw [mayB]
    have hst : stepB l k = false := by
      rw [stepB_get hu]
      first | (rw [m18]; simp; done) | (rw [m23]; simp; done) | (rw [ha]; simp [ltS_no c2]; omega)
    have : (List.range l.length).all (stepB l) = false := List.all_eq_false.2 ⟨k, by simp; omega, by simp [hst]⟩
    rw [this]; simp
  try simp only [↓str_beq_t, ↓str_beq_f, decide_eq_true_eq, decide_eq_false_iff_not, Bool.not_eq_true', Bool.not_eq_false', Int.not_lt, Int.not_le, beq_iff_eq, beq_eq_false_iff_ne, bne_iff_ne, bne_eq_false_iff_eq, ne_eq] at c1
  have hst : ∀ j, j < l.length → stepB l j = true := fun j hj => hp.2 j (by omega)
  have hok := steps_bok hst (by omega) hw
  have hwt : Tm.wfs (l.map Bd.t) := wfs_of (fun t ht => by obtain ⟨b, hb, rfl⟩ := List.mem_map.1 ht; exact (hw b hb).2)
  have hmt : ∀ t ∈ l.map Bd.t, mayT t = true := fun t ht => by obtain ⟨b, hb, rfl⟩ := List.mem_map.1 ht; exact (hok.el b hb).2
  have hsum := noteL_sum hmt
  have hnm := Names_ok 5 (l.map Bd.t) (fun t ht => (mayT_dle (hmt t ht)).1) hwt (by simp; omega) (by rw [List.length_map] at hsum; omega)
  have hnl := noteL_len 5 (l.map Bd.t) []
  refine awp_exit ?_
  refine thenQ_exit (thenQ_exit (inQ_hit ?_))
  refine thenQ_nil ?_
  refine awp_seq ?_
  refine awp_region ?_
  refine awps_stp0 rfl rfl (by decide) (stp_makeFunc (vs := [_]) rfl rfl) ?_
  refine awps_stp0 rfl rfl (by decide) (stp_move (.inr rfl) rfl) ?_
  refine awps_nil ?_
  refine thenQ_nil ?_
  refine awp_seq ?_
  refine awp_region ?_
  first | refine awps_stp0 rfl rfl (by decide) (stp_load rfl tf_S_api_Bind rfl rfl rfl rfl rfl) ?_ | refine awps_stp0 rfl rfl (by decide) (stp_load_elp1 rfl tf_S_api_Bind rfl) ?_ | refine awps_stp0 rfl rfl (by decide) (stp_load_elpn rfl tf_S_api_Bind rfl rfl rfl) ?_
  refine awps_callP (avs := [_]) false rfl rfl rfl (by decide) en_bind_terms rfl rfl (terms_ok l hok.len) (rfl) (passO .nil) (by rintro r O' ⟨_, rfl⟩; exact frB rfl) (by rintro h; cases h) ?_
  rintro r O' ⟨rfl, rfl⟩
  refine awps_callP (avs := [_]) true rfl rfl rfl (by decide) en_term_Names rfl rfl (hnm) (rfl) (passO .nil) (by rintro r O' ⟨_, rfl⟩; exact frB rfl) (by rintro - r O' ⟨⟨L, _, _, rfl⟩, rfl⟩; exact ⟨rfl, rfl⟩) ?_
  rintro r O' ⟨⟨L, g1, g2, rfl⟩, rfl⟩
  have hLl := rising_len g1 g2
  refine awps_sub (sub_untag hQ) ?_
  refine awps_stp0 rfl rfl (by decide) (stp_move (.inl rfl) rfl) ?_
  refine awps_callP (avs := [_, _]) false rfl rfl rfl (by decide) en_slices_ContainsFunc_string_string rfl rfl (ContainsFunc_st_ok false L _ rfl (by simp only [noteL] at hLl; simp only [List.length_nil] at hnl; rw [List.length_map] at hsum; omega) _ [.ptr 1 0] en_bind_May_1 (fun _ => [(1, .box [bdA l])]) (fun k => match L[k]? with | some s => hasB l s | none => false) ⟨fun k l => rfl, fun k => passO (.cons rfl trivial rfl .nil), fun k => rfl, fun k => rfl, fun k => rfl, fun k => rfl, fun h => by cases h⟩ (fun k s hs _ => by rw [hs]; exact bindMay1_ok l hok s)) (rfl) (passO (.cons rfl trivial rfl .nil)) (by rintro r O' ⟨m, n, b, _, _, _, _, rfl⟩; exact frB rfl) (by rintro h; cases h) ?_
  rintro r O' ⟨m, n, b, hm1, hf1, hc, rfl, rfl⟩
  refine awps_stp0 rfl rfl (by decide) (stp_not rfl rfl) ?_
  refine awps_stp0 rfl rfl (by decide) (stp_move (.inr rfl) rfl) ?_
  refine awps_nil ?_
  refine thenQ_nil ?_
  refine awp_ret ?_
  -- leaf 0F1F
  refine ret0 (noL hL) (.inl rfl) (resAs_tmp rfl (resAs_nil)) ?_ ?_
  · rfl
  refine ⟨bool_w ?_, rfl⟩
  rw [any_found g2 hf1 hc, mayB, decide_eq_true (by omega), List.all_eq_true.2 (fun j hj => hst j (by simpa using hj))]
  rfl
end Go.Proofs.Ytdecgkhdbfgldaa

set_option linter.unusedVariables false
set_option linter.unusedSimpArgs false
set_option maxRecDepth 8000
namespace Go.Proofs.Ytdecgkhdbfgldaa
open Go
def goodB (one l : List Bd) : Bool := l.all (fun b => decide (intoE one b.t = 0))
def subB (one l : List Bd) : List Bd := l.map (fun b => ⟨b.name, putT one b.t⟩)
def standL (l : List Bd) (name : ByteArray) (t : Tm) : List Bd := if 16 ≤ l.length ∨ goodB [⟨name, t⟩] l = false then [] else ins (subB [⟨name, t⟩] l) (posB l name) ⟨name, t⟩
def standE (l : List Bd) (name : ByteArray) (t : Tm) : Int := if 16 ≤ l.length ∨ goodB [⟨name, t⟩] l = false then 2 else 0
theorem subB_pos (one : List Bd) (s : ByteArray) : ∀ l : List Bd, posB (subB one l) s = posB l s
  | [] => rfl
  | b :: l => by
    have ih := subB_pos one s l
    simp only [posB, subB] at ih
    by_cases h : ltS b.name s = true
    · simp [posB, subB, List.takeWhile_cons, h, ih]
    · simp [posB, subB, List.takeWhile_cons, h]
theorem subB_ris (one : List Bd) {l : List Bd} (h : RisB l) : RisB (subB one l) := List.pairwise_map.2 (h.imp fun h => h)
theorem subB_length (one l : List Bd) : (subB one l).length = l.length := by simp [subB]
theorem one_bok {name : ByteArray} {t : Tm} (hn : name.size ≤ 140737488351232) (ht : t.wf) (hm : mayT t = true) : BOk [⟨name, t⟩] := ⟨List.pairwise_singleton _ _, by simp, fun b hb => by simp only [List.mem_singleton] at hb; subst hb; exact ⟨⟨hn, ht⟩, hm⟩⟩
theorem Stand_ok (l : List Bd) (hl : BOk l) (name : ByteArray) (hn : name.size ≤ 140737488351232) (t : Tm) (ht : t.wf) (hm : mayT t = true) : PF 74 [bdA l, sv name, tmA false t] (.tup [.dat true 5 (bdDs (standL l name t)), iv (standE l name t)]) := by
  have hlen := bdDs_length l
  have hone := one_bok hn ht hm
  have hll := hl.len
  have key := Own_ok 5 t (mayT_dle hm).1 ht
  rw [own_may 5 t 24 hm] at key
  refine AC_leP (Post := fun r O => ((16 ≤ l.length ∨ goodB [⟨name, t⟩] l = false) ∧ r = .tup [.imm (.slice none 0 0), iv 2] ∨ r = .tup [.dat true 5 (bdDs (standL l name t)), iv (standE l name t)]) ∧ O = []) ?_ (fun r O' h => by
    obtain ⟨⟨h1, rfl⟩ | rfl, rfl⟩ := h
    · exact ⟨_, .tup (.cons (.nil (f := true) (k := 5)) (.cons .refl .nil)), by rw [standL, standE, if_pos h1, if_pos h1]; rfl, rfl⟩
    · exact ⟨_, .refl, rfl, rfl⟩)
  refine AC_intro Try.func74 rfl Try.ntmps74 (Nat.le_of_ble_eq_true rfl) fun c hL hQ => ?_
  refine awp_seq ?_
  refine awp_region ?_
  refine awps_stp1 rfl rfl (by decide) (stp_box 5 rfl rfl rfl) rfl ?_
  refine awps_stp0 rfl rfl (by decide) (stp_move (.inr rfl) rfl) ?_
  refine awps_stp0 rfl rfl (by decide) (stp_move (.inr rfl) rfl) ?_
  refine awps_nil ?_
  refine thenQ_nil ?_
  refine awp_seq ?_
  refine awp_seq ?_
  refine awp_region ?_
  refine awps_stp0 rfl rfl (by decide) (stp_move (.inl rfl) rfl) ?_
  first | refine awps_stp0 rfl rfl (by decide) (stp_len_dat rfl sl_S_api_Bind rfl) ?_ | refine awps_stp0 rfl rfl (by decide) (stp_len_rowd rfl sl_S_api_Bind rfl rfl) ?_ | refine awps_stp0 rfl rfl (by decide) (stp_len_nil rfl sl_S_api_Bind rfl) ?_ | refine awps_stp0 rfl rfl (by decide) (stp_len_vw rfl sl_S_api_Bind rfl) ?_
  refine awps_stp0 rfl rfl (by decide) (stp_binI rfl rfl rfl rfl) ?_
  refine awps_nil ?_
  refine thenQ_nil ?_
  refine awp_cond rfl (fun c0 => ?_) (fun c0 => ?_)
  · try simp only [↓str_beq_t, ↓str_beq_f, decide_eq_true_eq, decide_eq_false_iff_not, Bool.not_eq_true', Bool.not_eq_false', Int.not_lt, Int.not_le, beq_iff_eq, beq_eq_false_iff_ne, bne_iff_ne, bne_eq_false_iff_eq, ne_eq] at c0
    refine awp_seq ?_
    refine awp_region ?_
    refine awps_stp0 rfl rfl (by decide) (stp_move (.inr rfl) rfl) ?_
    refine awps_stp0 rfl rfl (by decide) (stp_move (.inr rfl) rfl) ?_
    refine awps_nil ?_
    refine thenQ_nil ?_
    refine awp_ret ?_
    refine thenQ_ret (?_)
    -- leaf 0T
    refine ret0 (noL hL) (.inl rfl) (resAs_tmp rfl (resAs_tmp rfl (resAs_nil))) ?_ ?_
    · rfl
    exact ⟨.inl ⟨.inl (by omega), rfl⟩, rfl⟩
  try simp only [↓str_beq_t, ↓str_beq_f, decide_eq_true_eq, decide_eq_false_iff_not, Bool.not_eq_true', Bool.not_eq_false', Int.not_lt, Int.not_le, beq_iff_eq, beq_eq_false_iff_ne, bne_iff_ne, bne_eq_false_iff_eq, ne_eq] at c0
  refine awp_skip ?_
  refine thenQ_nil ?_
  refine awp_seq ?_
  refine awp_region ?_
  refine awps_stp0 rfl rfl (by decide) (stp_move (.inl rfl) rfl) ?_
  first | refine awps_stp0 rfl rfl (by decide) (stp_load_all rfl tf_api_Term rfl rfl rfl rfl) ?_ | refine awps_stp0 rfl rfl (by decide) (stp_load rfl tf_api_Term rfl rfl rfl rfl rfl) ?_ | refine awps_stp0 rfl rfl (by decide) (stp_load_elpa rfl tf_api_Term rfl rfl) ?_ | refine awps_stp0 rfl rfl (by decide) (stp_load_elpn rfl tf_api_Term rfl rfl rfl) ?_
  refine awps_stp0 rfl rfl (by decide) (stp_build rfl zv_api_Bind rfl pl_api_Bind rfl rfl) ?_
  refine awps_stp1 rfl rfl (by decide) (stp_buildSlice 22 rfl sl_S_api_Bind zv_api_Bind rfl rfl (by decide) (by decide) (by decide) rfl rfl rfl) rfl ?_
  refine awps_rowd 22 false 1 rfl rfl rfl rfl ?_
  refine awps_stp0 rfl rfl (by decide) (stp_move (.inr rfl) rfl) ?_
  refine awps_nil ?_
  refine thenQ_nil ?_
  refine awp_seq ?_
  refine awp_region ?_
  refine awps_stp0 rfl rfl (by decide) (stp_move (.inr rfl) rfl) ?_
  refine awps_nil ?_
  refine thenQ_nil ?_
  refine awp_seq ?_
  refine awp_seq ?_
  refine awp_region ?_
  refine awps_stp0 rfl rfl (by decide) (stp_move (.inl rfl) rfl) ?_
  first | refine awps_stp0 rfl rfl (by decide) (stp_len_dat rfl sl_S_api_Bind rfl) ?_ | refine awps_stp0 rfl rfl (by decide) (stp_len_rowd rfl sl_S_api_Bind rfl rfl) ?_ | refine awps_stp0 rfl rfl (by decide) (stp_len_nil rfl sl_S_api_Bind rfl) ?_ | refine awps_stp0 rfl rfl (by decide) (stp_len_vw rfl sl_S_api_Bind rfl) ?_
  refine awps_stp0 rfl rfl (by decide) (stp_move (.inl rfl) rfl) ?_
  refine awps_nil ?_
  refine thenQ_nil ?_
  refine awp_block ?_
  refine awp_while (l.length) (fun k => k ≤ l.length ∧ ∀ (j : Nat) (b : Bd), j < k → l[j]? = some b → intoE [⟨name, t⟩] b.t = 0) (fun k => ⟨[(1, sv name), (5, .ptr 5 0), (8, .row 22), (9, .row 9), (23, bdA l), (24, iv (bdDs l).length), (25, iv (k : Int))], [(5, .box (lift false (tmD t))), (22, .rowd 67 5 false (bdDs [⟨name, t⟩])), (9, .rowd 67 5 true (bdDs (subB [⟨name, t⟩] (l.take k))))]⟩) (⟨by omega, fun j b hj => absurd hj (by omega)⟩) ?_ (fun k hk hp => ?_)
  · exact Sub.trans (sub_nil_row (t := 9) (l := 9) 67 5 true rfl rfl) (sub_re (SubT.cons (lk_eq rfl (by first | rfl | simp)) (SubT.cons (lk_eq rfl (by first | rfl | simp)) (SubT.cons (lk_eq rfl (by first | rfl | simp)) (SubT.cons (lk_eq rfl (by first | rfl | simp)) (SubT.cons (lk_eq rfl (by first | rfl | simp)) (SubT.cons (lk_eq rfl (by first | rfl | simp)) (SubT.cons (lk_eq rfl (by first | rfl | simp)) (SubT.nil)))))))) (SubO.cons (ok_eq rfl (by rfl)) (SubO.cons (ok_eq rfl (by rfl)) (SubO.cons (ok_eq rfl (by rfl)) (SubO.nil)))) rfl rfl (noL' (noL hL) _))
  have hl2 : (bdDs (subB [⟨name, t⟩] (l.take k))).length ≤ l.length := by rw [bdDs_length, subB_length, List.length_take]; omega
  refine awp_seq ?_
  refine awp_region ?_
  refine awps_stp0 rfl rfl (by decide) (stp_binI rfl rfl rfl rfl) ?_
  refine awps_nil ?_
  refine thenQ_nil ?_
  refine awp_seq ?_
  refine awp_cond rfl (fun c1 => ?_) (fun c1 => ?_)
  · try simp only [↓str_beq_t, ↓str_beq_f, decide_eq_true_eq, decide_eq_false_iff_not, Bool.not_eq_true', Bool.not_eq_false', Int.not_lt, Int.not_le, beq_iff_eq, beq_eq_false_iff_ne, bne_iff_ne, bne_eq_false_iff_eq, ne_eq] at c1
    obtain ⟨u, hu⟩ := get_of_lt (l := l) (k := k) (by omega)
    have hum := hl.el u (List.mem_of_getElem? hu)
    refine awp_skip ?_
    refine thenQ_nil ?_
    refine awp_seq ?_
    refine awp_block ?_
    refine awp_seq ?_
    refine awp_region ?_
    first | refine awps_stp0 rfl rfl (by decide) (stp_indexAddr rfl sl_S_api_Bind rfl rfl (by omega) (bdDs_get hu)) ?_ | refine awps_stp0 rfl rfl (by decide) (stp_indexAddr_rowd rfl sl_S_api_Bind rfl rfl rfl (by omega) (bdDs_get hu)) ?_ | refine awps_stp0 rfl rfl (by decide) (stp_indexAddr_row rfl sl_S_api_Bind rfl rfl rfl (by omega) (bdDs_get hu) (by decide)) ?_
    first | refine awps_stp0 rfl rfl (by decide) (stp_load_all rfl tf_api_Bind rfl rfl rfl rfl) ?_ | refine awps_stp0 rfl rfl (by decide) (stp_load rfl tf_api_Bind rfl rfl rfl rfl rfl) ?_ | refine awps_stp0 rfl rfl (by decide) (stp_load_elpa rfl tf_api_Bind rfl rfl) ?_ | refine awps_stp0 rfl rfl (by decide) (stp_load_elpn rfl tf_api_Bind rfl rfl rfl) ?_
    refine awps_stp1 rfl rfl (by decide) (stp_alloc 11 rfl zv_api_Bind rfl) rfl ?_
    refine awps_store rfl rfl rfl tf_api_Bind rfl rfl rfl rfl rfl rfl rfl rfl rfl ?_
    refine awps_nil ?_
    refine thenQ_nil ?_
    refine awp_seq ?_
    refine awp_region ?_
    refine awps_stp0 rfl rfl (by decide) (stp_move (.inl rfl) rfl) ?_
    first | refine awps_stp0 rfl rfl (by decide) (stp_fieldAddr rfl fo_api_Bind_1 rfl) ?_ | refine awps_stp0 rfl rfl (by decide) (stp_fieldAddr_elp rfl fo_api_Bind_1 rfl) ?_
    first | refine awps_stp0 rfl rfl (by decide) (stp_load_all rfl tf_api_Term rfl rfl rfl rfl) ?_ | refine awps_stp0 rfl rfl (by decide) (stp_load rfl tf_api_Term rfl rfl rfl rfl rfl) ?_ | refine awps_stp0 rfl rfl (by decide) (stp_load_elpa rfl tf_api_Term rfl rfl) ?_ | refine awps_stp0 rfl rfl (by decide) (stp_load_elpn rfl tf_api_Term rfl rfl rfl) ?_
    refine awps_call (avs := [_, _]) true rfl rfl rfl (by decide) en_bind_Into rfl rfl (Into_ok [⟨name, t⟩] hone u.t (mayT_dle hum.2).1 hum.1.2) rfl rfl ?_
    refine awps_stp0 rfl rfl (by decide) (stp_move (.inl rfl) rfl) ?_
    refine awps_stp0 rfl rfl (by decide) (stp_extract rfl rfl rfl) ?_
    refine awps_stp0 rfl rfl (by decide) (stp_extract rfl rfl rfl) ?_
    refine awps_stp1 rfl rfl (by decide) (stp_alloc 12 rfl zv_api_Term rfl) rfl ?_
    refine awps_store rfl rfl rfl tf_api_Term rfl rfl rfl rfl rfl rfl rfl rfl rfl ?_
    refine awps_stp0 rfl rfl (by decide) (stp_move (.inr rfl) rfl) ?_
    refine awps_nil ?_
    refine thenQ_nil ?_
    refine awp_seq ?_
    refine awp_seq ?_
    refine awp_region ?_
    refine awps_stp0 rfl rfl (by decide) (stp_move (.inl rfl) rfl) ?_
    refine awps_stp0 rfl rfl (by decide) (stp_binI rfl rfl rfl rfl) ?_
    refine awps_nil ?_
    refine thenQ_nil ?_
    refine awp_cond rfl (fun c2 => ?_) (fun c2 => ?_)
    · try simp only [↓str_beq_t, ↓str_beq_f, decide_eq_true_eq, decide_eq_false_iff_not, Bool.not_eq_true', Bool.not_eq_false', Int.not_lt, Int.not_le, beq_iff_eq, beq_eq_false_iff_ne, bne_iff_ne, bne_eq_false_iff_eq, ne_eq] at c2
      refine awp_seq ?_
      refine awp_region ?_
      refine awps_stp0 rfl rfl (by decide) (stp_move (.inl rfl) rfl) ?_
      refine awps_stp0 rfl rfl (by decide) (stp_move (.inr rfl) rfl) ?_
      refine awps_stp0 rfl rfl (by decide) (stp_move (.inr rfl) rfl) ?_
      refine awps_nil ?_
      refine thenQ_nil ?_
      refine awp_ret ?_
      refine thenQ_ret (inQ_ret (thenQ_ret (thenQ_ret (inQ_ret (thenQ_ret (?_))))))
      -- leaf 0F1T2T
      refine ret0 (noL hL) (.inl rfl) (resAs_tmp rfl (resAs_tmp rfl (resAs_nil))) ?_ ?_
      · rfl
      refine ⟨.inl ⟨.inr ?_, ?_⟩, rfl⟩
      · refine List.all_eq_false.2 ⟨u, List.mem_of_getElem? hu, by simpa using c2⟩
      · have : intoE [⟨name, t⟩] u.t = 2 := by
          unfold intoE at c2 ⊢
          split
          · rename_i h; rw [if_pos h] at c2; exact absurd rfl c2
          · rfl
        rw [this]; rfl
    try simp only [↓str_beq_t, ↓str_beq_f, decide_eq_true_eq, decide_eq_false_iff_not, Bool.not_eq_true', Bool.not_eq_false', Int.not_lt, Int.not_le, beq_iff_eq, beq_eq_false_iff_ne, bne_iff_ne, bne_eq_false_iff_eq, ne_eq] at c2
    obtain ⟨hput, hit⟩ := into_may c2
    rw [hit]
    refine awp_skip ?_
    refine thenQ_nil ?_
    refine awp_region ?_
    refine awps_stp0 rfl rfl (by decide) (stp_move (.inl rfl) rfl) ?_
    first | refine awps_stp0 rfl rfl (by decide) (stp_fieldAddr rfl fo_api_Bind_0 rfl) ?_ | refine awps_stp0 rfl rfl (by decide) (stp_fieldAddr_elp rfl fo_api_Bind_0 rfl) ?_
    first | refine awps_stp0 rfl rfl (by decide) (stp_load rfl tf_string rfl rfl rfl rfl rfl) ?_ | refine awps_stp0 rfl rfl (by decide) (stp_load_elp1 rfl tf_string rfl) ?_ | refine awps_stp0 rfl rfl (by decide) (stp_load_elpn rfl tf_string rfl rfl rfl) ?_
    first | refine awps_stp0 rfl rfl (by decide) (stp_load_all rfl tf_api_Term rfl rfl rfl rfl) ?_ | refine awps_stp0 rfl rfl (by decide) (stp_load rfl tf_api_Term rfl rfl rfl rfl rfl) ?_ | refine awps_stp0 rfl rfl (by decide) (stp_load_elpa rfl tf_api_Term rfl rfl) ?_ | refine awps_stp0 rfl rfl (by decide) (stp_load_elpn rfl tf_api_Term rfl rfl rfl) ?_
    refine awps_stp0 rfl rfl (by decide) (stp_build rfl zv_api_Bind rfl pl_api_Bind rfl rfl) ?_
    refine awps_stp1 rfl rfl (by decide) (stp_buildSlice 44 rfl sl_S_api_Bind zv_api_Bind rfl rfl (by decide) (by decide) (by decide) rfl rfl rfl) rfl ?_
    first | refine awps_u rfl rfl (by decide) (stpU_append1 45 ta_S_api_Bind rfl rfl rfl rfl rfl rfl rfl rfl (noL hL _) (by omega) rfl) rfl ?_ | refine awps_u rfl rfl (by decide) (stpU_appendd 45 ta_S_api_Bind rfl rfl rfl rfl rfl (noL hL _) (by simp) (by omega) rfl) rfl ?_ | refine awps_u rfl rfl (by decide) (stpU_appendi 45 ta_S_api_Bind rfl rfl rfl rfl (rfl) rfl (noL hL _) (by simp) (by omega) rfl) rfl ?_
    refine awps_stp0 rfl rfl (by decide) (stp_move (.inr rfl) rfl) ?_
    refine awps_nil ?_
    refine inQ_nil ?_
    refine thenQ_nil ?_
    refine awp_region ?_
    refine awps_stp0 rfl rfl (by decide) (stp_add rfl rfl rfl (by omega)) ?_
    refine awps_stp0 rfl rfl (by decide) (stp_move (.inl rfl) rfl) ?_
    refine awps_nil ?_
    refine thenQ_nil ?_
    refine ⟨?_, ?_, ?_⟩
    · skip
      omega
    · skip
      refine ⟨by omega, fun j b hj hb => ?_⟩
      by_cases hjk : j < k
      · exact hp.2 j b hjk hb
      · rw [show j = k by omega, hu] at hb; cases hb; exact c2
    exact Sub.trans (sub_rename 45 9 (noL hL _) (noL hL _)) (sub_re (SubT.cons (lk_eq rfl (by first | rfl | simp)) (SubT.cons (lk_eq rfl (by first | rfl | simp)) (SubT.cons (lk_eq rfl (by first | rfl | simp)) (SubT.cons (lk_eq rfl (by first | rfl | simp)) (SubT.cons (lk_eq rfl (by first | rfl | simp)) (SubT.cons (lk_eq rfl (by first | rfl | simp)) (SubT.cons (lk_eq rfl (by first | rfl | simp)) (SubT.nil)))))))) (SubO.cons (ok_eq rfl (by rfl)) (SubO.cons (ok_eq rfl (by rfl)) (SubO.cons (ok_eq rfl (by rw [take_snoc hu, subB, subB, List.map_append, bdDs, bdDs, List.map_append]; rfl)) (SubO.nil)))) rfl rfl (noL' (noL hL) _))
  try simp only [↓str_beq_t, ↓str_beq_f, decide_eq_true_eq, decide_eq_false_iff_not, Bool.not_eq_true', Bool.not_eq_false', Int.not_lt, Int.not_le, beq_iff_eq, beq_eq_false_iff_ne, bne_iff_ne, bne_eq_false_iff_eq, ne_eq] at c1
  have hk2 : l.take k = l := List.take_of_length_le (by omega)
  rw [hk2]
  have hgood : goodB [⟨name, t⟩] l = true := List.all_eq_true.2 fun b hb => by
    obtain ⟨j, hj⟩ := List.getElem?_of_mem hb
    simpa using hp.2 j b (by have := (List.getElem?_eq_some_iff.1 hj).1; omega) hj
  have hris := subB_ris [⟨name, t⟩] hl.ris
  have hsl := subB_length [⟨name, t⟩] l
  have hbl := bdDs_length (subB [⟨name, t⟩] l)
  have hpl := posB_le (subB [⟨name, t⟩] l) name
  refine awp_exit ?_
  refine thenQ_exit (thenQ_exit (inQ_hit ?_))
  refine thenQ_nil ?_
  refine awp_seq ?_
  refine awp_region ?_
  refine awps_stp0 rfl rfl (by decide) (stp_move (.inl rfl) rfl) ?_
  refine awps_stp0 rfl rfl (by decide) (stp_move (.inl rfl) rfl) ?_
  refine awps_call (avs := [_, _]) true rfl rfl rfl (by decide) en_bind_find rfl rfl (find_ok (subB [⟨name, t⟩] l) name hris (by omega)) rfl rfl ?_
  refine awps_stp0 rfl rfl (by decide) (stp_move (.inl rfl) rfl) ?_
  refine awps_stp0 rfl rfl (by decide) (stp_extract rfl rfl rfl) ?_
  refine awps_stp0 rfl rfl (by decide) (stp_extract rfl rfl rfl) ?_
  refine awps_stp0 rfl rfl (by decide) (stp_move (.inr rfl) rfl) ?_
  refine awps_stp0 rfl rfl (by decide) (stp_move (.inr rfl) rfl) ?_
  refine awps_nil ?_
  refine thenQ_nil ?_
  refine awp_seq ?_
  refine awp_region ?_
  refine awps_stp0 rfl rfl (by decide) (stp_move (.inl rfl) rfl) ?_
  refine awps_stp0 rfl rfl (by decide) (stp_move (.inl rfl) rfl) ?_
  refine awps_stp0 rfl rfl (by decide) (stp_move (.inl rfl) rfl) ?_
  first | refine awps_stp0 rfl rfl (by decide) (stp_load_all rfl tf_api_Term rfl rfl rfl rfl) ?_ | refine awps_stp0 rfl rfl (by decide) (stp_load rfl tf_api_Term rfl rfl rfl rfl rfl) ?_ | refine awps_stp0 rfl rfl (by decide) (stp_load_elpa rfl tf_api_Term rfl rfl) ?_ | refine awps_stp0 rfl rfl (by decide) (stp_load_elpn rfl tf_api_Term rfl rfl rfl) ?_
  refine awps_call (avs := [_]) true rfl rfl rfl (by decide) en_term_Own rfl rfl (key) rfl rfl ?_
  refine awps_stp0 rfl rfl (by decide) (stp_build rfl zv_api_Bind rfl pl_api_Bind rfl rfl) ?_
  refine awps_stp1 rfl rfl (by decide) (stp_buildSlice 59 rfl sl_S_api_Bind zv_api_Bind rfl rfl (by decide) (by decide) (by decide) rfl rfl rfl) rfl ?_
  refine awps_rowd 59 true 1 rfl rfl rfl rfl ?_
  refine awps_via ⟨[(60, .row 9)], [(9, .rowd 67 5 true (ins (bdDs (subB [⟨name, t⟩] l)) (posB (subB [⟨name, t⟩] l) name) (bdD ⟨name, t⟩)))]⟩ (fun Q2 K => ?_) ?_
  · refine awps_sub (sub_re (T1 := [(53, .row 9), (54, iv (posB (subB [⟨name, t⟩] l) name : Int)), (59, .row 59)]) (O1 := [(9, .rowd 67 5 true (bdDs (subB [⟨name, t⟩] l))), (59, .rowd 67 5 true [bdD ⟨name, t⟩])]) (SubT.cons rfl (SubT.cons rfl (SubT.cons rfl SubT.nil))) (SubO.cons rfl (SubO.cons rfl SubO.nil)) rfl rfl (noL' (noL hL) _)) ?_
    refine awps_open (l := 9) rfl (by decide) (noL hL _) (fun he => ?_) (fun cap h1 h2 => ?_)
    · have hp0 : posB (subB [⟨name, t⟩] l) name = 0 := by rw [he] at hbl; simp at hbl; omega
      rw [hp0] at K ⊢
      rw [he] at K
      refine awps_callT (avs := [_, _, _]) rfl rfl rfl (by decide) en_slices_Insert_api_Bind_api_Bind rfl rfl (InsertNil_bd9_ok true (bdD ⟨name, t⟩) rfl) rfl (passT (.cons rfl trivial rfl .nil)) (by rintro r O' ⟨_, rfl⟩; exact frB rfl) ?_
      rintro r O' ⟨rfl, rfl⟩
      exact awps_sub (Sub.trans (sub_rename 200 9 (noL hL _) (noL hL _)) (sub_re (SubT.cons rfl SubT.nil) (SubO.cons rfl SubO.nil) rfl rfl (noL' (noL hL) _))) K
    · refine awps_callT (avs := [_, _, _]) rfl rfl rfl (by decide) en_slices_Insert_api_Bind_api_Bind rfl rfl (Insert_bd9_ok true _ (bdD ⟨name, t⟩) (posB (subB [⟨name, t⟩] l) name) cap (by omega) h1 h2 (fun x hx => by obtain ⟨b, _, rfl⟩ := List.mem_map.1 hx; rfl) rfl (by omega)) rfl (passT (.cons rfl trivial rfl (.cons rfl trivial rfl .nil))) (by rintro r O' ⟨junk, ⟨_, _, rfl⟩ | ⟨cap', _, _, rfl⟩⟩ <;> exact frB rfl) ?_
      rintro r O' ⟨junk, ⟨rfl, hj, rfl⟩ | ⟨cap', rfl, hj, rfl⟩⟩
      · exact awps_sub (Sub.trans (sub_close (l := 9) (cap := cap) (n := (bdDs (subB [⟨name, t⟩] l)).length + 1) (ins (bdDs (subB [⟨name, t⟩] l)) (posB (subB [⟨name, t⟩] l) name) (bdD ⟨name, t⟩)) rfl (noL hL _) ⟨junk, rfl⟩ (by rw [ins_length _ _ _ (by omega)]) (by rw [hj]; simp)) (sub_re (SubT.cons (lk_eq rfl (by simp [AV.rp, clV])) SubT.nil) (SubO.cons rfl SubO.nil) rfl rfl (noL' (noL hL) _))) K
      · exact awps_sub (Sub.trans (sub_close (l := 200) (cap := cap') (n := (bdDs (subB [⟨name, t⟩] l)).length + 1) (ins (bdDs (subB [⟨name, t⟩] l)) (posB (subB [⟨name, t⟩] l) name) (bdD ⟨name, t⟩)) rfl (noL hL _) ⟨junk, rfl⟩ (by rw [ins_length _ _ _ (by omega)]) (by rw [hj]; simp)) (Sub.trans (sub_re (T1 := [(60, .row 200)]) (O1 := [(200, _)]) (SubT.cons (lk_eq rfl (by simp [AV.rp, clV])) SubT.nil) (SubO.cons rfl SubO.nil) rfl rfl (noL' (noL hL) _)) (Sub.trans (sub_rename 200 9 (noL hL _) (noL hL _)) (sub_re (SubT.cons rfl SubT.nil) (SubO.cons rfl SubO.nil) rfl rfl (noL' (noL hL) _))))) K
  refine awps_stp0 rfl rfl (by decide) (stp_move (.inr rfl) rfl) ?_
  refine awps_stp0 rfl rfl (by decide) (stp_move (.inr rfl) rfl) ?_
  refine awps_sub (sub_freeze (l := 9) rfl (by decide) (noL hL _) rfl rfl) ?_
  refine awps_nil ?_
  refine thenQ_nil ?_
  refine awp_ret ?_
  -- leaf 0F1F
  refine ret0 (noL hL) (.inl rfl) (resAs_tmp rfl (resAs_tmp rfl (resAs_nil))) ?_ ?_
  · rfl
  refine ⟨.inr ?_, rfl⟩
  have e : bdDs (ins (subB [⟨name, t⟩] l) (posB l name) ⟨name, t⟩) = ins (bdDs (subB [⟨name, t⟩] l)) (posB (subB [⟨name, t⟩] l) name) (bdD ⟨name, t⟩) := by
    rw [subB_pos, bdDs, ins_map]; rfl
  rw [standL, standE, if_neg (by simp [hgood]; omega), if_neg (by simp [hgood]; omega), e]
  rfl
end Go.Proofs.Ytdecgkhdbfgldaa

set_option linter.unusedVariables false
set_option linter.unusedSimpArgs false
set_option maxRecDepth 8000
namespace Go.Proofs.Ytdecgkhdbfgldaa
open Go
theorem bindCheck_ok (l : List Bd) (hw : ∀ b ∈ l, b.wf) : PF 37 [bdA l] (iv (if mayB l = true then 0 else 1)) := by
  refine AC_intro Try.func37 rfl Try.ntmps37 (Nat.le_of_ble_eq_true rfl) fun c hL hQ => ?_
  refine awp_seq ?_
  refine awp_region ?_
  refine awps_stp0 rfl rfl (by decide) (stp_move (.inr rfl) rfl) ?_
  refine awps_nil ?_
  refine thenQ_nil ?_
  refine awp_seq ?_
  refine awp_seq ?_
  refine awp_region ?_
  refine awps_stp0 rfl rfl (by decide) (stp_move (.inl rfl) rfl) ?_
  refine awps_call (avs := [_]) false rfl rfl rfl (by decide) en_bind_May rfl rfl (bindMay_ok l hw) rfl rfl ?_
  refine awps_stp0 rfl rfl (by decide) (stp_not rfl rfl) ?_
  refine awps_nil ?_
  refine thenQ_nil ?_
  refine awp_cond rfl (fun c0 => ?_) (fun c0 => ?_)
  · try simp only [↓str_beq_t, ↓str_beq_f, decide_eq_true_eq, decide_eq_false_iff_not, Bool.not_eq_true', Bool.not_eq_false', Int.not_lt, Int.not_le, beq_iff_eq, beq_eq_false_iff_ne, bne_iff_ne, bne_eq_false_iff_eq, ne_eq] at c0
    refine awp_seq ?_
    refine awp_region ?_
    refine awps_stp0 rfl rfl (by decide) (stp_move (.inr rfl) rfl) ?_
    refine awps_nil ?_
    refine thenQ_nil ?_
    refine awp_ret ?_
    refine thenQ_ret (?_)
    -- leaf 0T
    refine ret0 (noL hL) (.inl rfl) (resAs_tmp rfl (resAs_nil)) ?_ ?_
    · rfl
    exact ⟨by rw [if_neg (by simp [c0])]; rfl, rfl⟩
  try simp only [↓str_beq_t, ↓str_beq_f, decide_eq_true_eq, decide_eq_false_iff_not, Bool.not_eq_true', Bool.not_eq_false', Int.not_lt, Int.not_le, beq_iff_eq, beq_eq_false_iff_ne, bne_iff_ne, bne_eq_false_iff_eq, ne_eq] at c0
  refine awp_skip ?_
  refine thenQ_nil ?_
  refine awp_seq ?_
  refine awp_region ?_
  refine awps_stp0 rfl rfl (by decide) (stp_move (.inr rfl) rfl) ?_
  refine awps_nil ?_
  refine thenQ_nil ?_
  refine awp_ret ?_
  -- leaf 0F
  refine ret0 (noL hL) (.inl rfl) (resAs_tmp rfl (resAs_nil)) ?_ ?_
  · rfl
  exact ⟨by rw [if_pos c0]; rfl, rfl⟩
def groundL (l : List Bd) : Bool := (noteL 5 (l.map Bd.t)).isEmpty
theorem bindGround_ok (l : List Bd) (hl : BOk l) : PF 77 [bdA l] (bv (groundL l)) := by
  have hln := hl.len
  have hwt : Tm.wfs (l.map Bd.t) := wfs_of (fun t ht => by obtain ⟨b, hb, rfl⟩ := List.mem_map.1 ht; exact (hl.el b hb).1.2)
  have hmt : ∀ t ∈ l.map Bd.t, mayT t = true := fun t ht => by obtain ⟨b, hb, rfl⟩ := List.mem_map.1 ht; exact (hl.el b hb).2
  have hsum := noteL_sum hmt
  have hnm := Names_ok 5 (l.map Bd.t) (fun t ht => (mayT_dle (hmt t ht)).1) hwt (by simp; omega) (by rw [List.length_map] at hsum; omega)
  refine AC_intro Try.func77 rfl Try.ntmps77 (Nat.le_of_ble_eq_true rfl) fun c hL hQ => ?_
  refine awp_seq ?_
  refine awp_region ?_
  refine awps_stp0 rfl rfl (by decide) (stp_move (.inr rfl) rfl) ?_
  refine awps_nil ?_
  refine thenQ_nil ?_
  refine awp_seq ?_
  refine awp_region ?_
  refine awps_stp0 rfl rfl (by decide) (stp_move (.inl rfl) rfl) ?_
  refine awps_callP (avs := [_]) false rfl rfl rfl (by decide) en_bind_terms rfl rfl (terms_ok l hl.len) (rfl) (passO .nil) (by rintro r O' ⟨_, rfl⟩; exact frB rfl) (by rintro h; cases h) ?_
  rintro r O' ⟨rfl, rfl⟩
  refine awps_callP (avs := [_]) true rfl rfl rfl (by decide) en_term_Names rfl rfl (hnm) (rfl) (passO .nil) (by rintro r O' ⟨_, rfl⟩; exact frB rfl) (by rintro - r O' ⟨⟨L, _, _, rfl⟩, rfl⟩; exact ⟨rfl, rfl⟩) ?_
  rintro r O' ⟨⟨L, g1, g2, rfl⟩, rfl⟩
  first | refine awps_stp0 rfl rfl (by decide) (stp_len_dat rfl sl_S_string rfl) ?_ | refine awps_stp0 rfl rfl (by decide) (stp_len_rowd rfl sl_S_string rfl rfl) ?_ | refine awps_stp0 rfl rfl (by decide) (stp_len_nil rfl sl_S_string rfl) ?_ | refine awps_stp0 rfl rfl (by decide) (stp_len_vw rfl sl_S_string rfl) ?_
  refine awps_stp0 rfl rfl (by decide) (stp_binI rfl rfl rfl rfl) ?_
  refine awps_stp0 rfl rfl (by decide) (stp_move (.inr rfl) rfl) ?_
  refine awps_nil ?_
  refine thenQ_nil ?_
  refine awp_ret ?_
  -- leaf 
  refine ret0 (noL hL) (.inl rfl) (resAs_tmp rfl (resAs_nil)) ?_ ?_
  · rfl
  refine ⟨bool_w ?_, rfl⟩
  rw [strDs_length, natBeq0, groundL, Bool.eq_iff_iff, decide_eq_true_eq, List.length_eq_zero_iff, List.isEmpty_iff]
  constructor
  · rintro rfl; exact List.eq_nil_iff_forall_not_mem.2 fun s hs => by have := (g2 s).2 hs; simp at this
  · intro h; rw [h] at g2; exact List.eq_nil_iff_forall_not_mem.2 fun s hs => by have := (g2 s).1 hs; simp at this
def applyT (l : List Bd) (t : Tm) : Tm := if mayB l = true ∧ mayT t = true then intoT l t else zeroTm
def applyE (l : List Bd) (t : Tm) : Int := if mayB l = true ∧ mayT t = true then intoE l t else 1
theorem Apply_ok (l : List Bd) (hw : ∀ b ∈ l, b.wf) (t : Tm) (ht : t.wf) : PF 33 [bdA l, tmA false t] (.tup [.agg (lift true (tmD (applyT l t))), iv (applyE l t)]) := by
  refine AC_leP (Post := fun r O => (¬ (mayB l = true ∧ mayT t = true) ∧ r = .tup [.agg [iv 0, sv ⟨#[]⟩, iv 0, .imm (.slice none 0 0)], iv 1] ∨ r = .tup [.agg (lift true (tmD (applyT l t))), iv (applyE l t)]) ∧ O = []) ?_ (fun r O' h => by
    obtain ⟨⟨h1, rfl⟩ | rfl, rfl⟩ := h
    · exact ⟨_, .tup (.cons (zero_le true) (.cons .refl .nil)), by rw [applyT, applyE, if_neg h1, if_neg h1], rfl⟩
    · exact ⟨_, .refl, rfl, rfl⟩)
  refine AC_intro Try.func33 rfl Try.ntmps33 (Nat.le_of_ble_eq_true rfl) fun c hL hQ => ?_
  refine awp_seq ?_
  refine awp_region ?_
  refine awps_stp1 rfl rfl (by decide) (stp_box 3 rfl rfl rfl) rfl ?_
  refine awps_stp1 rfl rfl (by decide) (stp_alloc 4 rfl zv_api_Term rfl) rfl ?_
  refine awps_stp0 rfl rfl (by decide) (stp_move (.inr rfl) rfl) ?_
  refine awps_nil ?_
  refine thenQ_nil ?_
  refine awp_seq ?_
  refine awp_seq ?_
  refine awp_region ?_
  refine awps_stp0 rfl rfl (by decide) (stp_move (.inl rfl) rfl) ?_
  refine awps_call (avs := [_]) false rfl rfl rfl (by decide) en_bind_May rfl rfl (bindMay_ok l hw) rfl rfl ?_
  refine awps_stp0 rfl rfl (by decide) (stp_not rfl rfl) ?_
  refine awps_stp0 rfl rfl (by decide) (stp_move (.inl rfl) rfl) ?_
  refine awps_split 9 rfl (fun g9 => ?_) (fun g9 => ?_)
  · try simp only [↓str_beq_t, ↓str_beq_f, decide_eq_true_eq, decide_eq_false_iff_not, Bool.not_eq_true', Bool.not_eq_false', Int.not_lt, Int.not_le, beq_iff_eq, beq_eq_false_iff_ne, bne_iff_ne, bne_eq_false_iff_eq, ne_eq] at g9
    refine awps_gs rfl rfl rfl rfl (by decide) rfl (by decide) ?_
    refine awps_gs rfl rfl rfl rfl (by decide) rfl (by decide) ?_
    refine awps_gs rfl rfl rfl rfl (by decide) rfl (by decide) ?_
    refine awps_stp0 rfl rfl (by decide) (stp_pick rfl rfl rfl) ?_
    refine awps_nil ?_
    refine thenQ_nil ?_
    refine awp_condT rfl ?_
    refine awp_seq ?_
    refine awp_region ?_
    refine awps_stp0 rfl rfl (by decide) (stp_build rfl zv_api_Term rfl pl_api_Term rfl rfl) ?_
    refine awps_store rfl rfl rfl tf_api_Term rfl rfl rfl rfl rfl rfl rfl rfl rfl ?_
    refine awps_stp0 rfl rfl (by decide) (stp_move (.inr rfl) rfl) ?_
    refine awps_nil ?_
    refine thenQ_nil ?_
    refine awp_ret ?_
    refine thenQ_ret (?_)
    -- leaf g9T
    refine ret0 (noL hL) (.inl rfl) (resAs_cell tf_api_Term rfl rfl rfl (resAs_tmp rfl (resAs_nil))) ?_ ?_
    · rfl
    first | exact ⟨.inl ⟨by simp_all, rfl⟩, rfl⟩ | exact ⟨.inr (by rw [applyT, applyE, if_pos ⟨hml, hmt⟩, if_pos ⟨hml, hmt⟩]; rfl), rfl⟩
  try simp only [↓str_beq_t, ↓str_beq_f, decide_eq_true_eq, decide_eq_false_iff_not, Bool.not_eq_true', Bool.not_eq_false', Int.not_lt, Int.not_le, beq_iff_eq, beq_eq_false_iff_ne, bne_iff_ne, bne_eq_false_iff_eq, ne_eq] at g9
  first | refine awps_g0 rfl rfl rfl (by decide) rfl (by decide) (stp_load_all rfl tf_api_Term rfl rfl rfl rfl) ?_ | refine awps_g0 rfl rfl rfl (by decide) rfl (by decide) (stp_load rfl tf_api_Term rfl rfl rfl rfl rfl) ?_ | refine awps_g0 rfl rfl rfl (by decide) rfl (by decide) (stp_load_elpa rfl tf_api_Term rfl rfl) ?_ | refine awps_g0 rfl rfl rfl (by decide) rfl (by decide) (stp_load_elpn rfl tf_api_Term rfl rfl rfl) ?_
  refine awps_g0 rfl rfl rfl (by decide) rfl (by decide) (stp_call (avs := [_]) false rfl en_term_May rfl rfl (May_ok t ht) (fun _ => rfl) rfl) ?_
  refine awps_g0 rfl rfl rfl (by decide) rfl (by decide) (stp_not rfl rfl) ?_
  refine awps_stp0 rfl rfl (by decide) (stp_pick rfl rfl rfl) ?_
  refine awps_nil ?_
  refine thenQ_nil ?_
  refine awp_cond rfl (fun c0 => ?_) (fun c0 => ?_)
  · try simp only [↓str_beq_t, ↓str_beq_f, decide_eq_true_eq, decide_eq_false_iff_not, Bool.not_eq_true', Bool.not_eq_false', Int.not_lt, Int.not_le, beq_iff_eq, beq_eq_false_iff_ne, bne_iff_ne, bne_eq_false_iff_eq, ne_eq] at c0
    refine awp_seq ?_
    refine awp_region ?_
    refine awps_stp0 rfl rfl (by decide) (stp_build rfl zv_api_Term rfl pl_api_Term rfl rfl) ?_
    refine awps_store rfl rfl rfl tf_api_Term rfl rfl rfl rfl rfl rfl rfl rfl rfl ?_
    refine awps_stp0 rfl rfl (by decide) (stp_move (.inr rfl) rfl) ?_
    refine awps_nil ?_
    refine thenQ_nil ?_
    refine awp_ret ?_
    refine thenQ_ret (?_)
    -- leaf g9F0T
    refine ret0 (noL hL) (.inl rfl) (resAs_cell tf_api_Term rfl rfl rfl (resAs_tmp rfl (resAs_nil))) ?_ ?_
    · rfl
    first | exact ⟨.inl ⟨by simp_all, rfl⟩, rfl⟩ | exact ⟨.inr (by rw [applyT, applyE, if_pos ⟨hml, hmt⟩, if_pos ⟨hml, hmt⟩]; rfl), rfl⟩
  try simp only [↓str_beq_t, ↓str_beq_f, decide_eq_true_eq, decide_eq_false_iff_not, Bool.not_eq_true', Bool.not_eq_false', Int.not_lt, Int.not_le, beq_iff_eq, beq_eq_false_iff_ne, bne_iff_ne, bne_eq_false_iff_eq, ne_eq] at c0
  have hml : mayB l = true := by simp_all
  have hmt : mayT t = true := by simp_all
  have hok := mayB_bok hml hw
  refine awp_skip ?_
  refine thenQ_nil ?_
  refine awp_seq ?_
  refine awp_region ?_
  refine awps_stp0 rfl rfl (by decide) (stp_move (.inl rfl) rfl) ?_
  first | refine awps_stp0 rfl rfl (by decide) (stp_load_all rfl tf_api_Term rfl rfl rfl rfl) ?_ | refine awps_stp0 rfl rfl (by decide) (stp_load rfl tf_api_Term rfl rfl rfl rfl rfl) ?_ | refine awps_stp0 rfl rfl (by decide) (stp_load_elpa rfl tf_api_Term rfl rfl) ?_ | refine awps_stp0 rfl rfl (by decide) (stp_load_elpn rfl tf_api_Term rfl rfl rfl) ?_
  refine awps_call (avs := [_, _]) false rfl rfl rfl (by decide) en_bind_Into rfl rfl (Into_ok l hok t (mayT_dle hmt).1 ht) rfl rfl ?_
  refine awps_stp0 rfl rfl (by decide) (stp_extract rfl rfl rfl) ?_
  refine awps_stp0 rfl rfl (by decide) (stp_extract rfl rfl rfl) ?_
  refine awps_store rfl rfl rfl tf_api_Term rfl rfl rfl rfl rfl rfl rfl rfl rfl ?_
  refine awps_stp0 rfl rfl (by decide) (stp_move (.inr rfl) rfl) ?_
  refine awps_nil ?_
  refine thenQ_nil ?_
  refine awp_ret ?_
  -- leaf g9F0F
  refine ret0 (noL hL) (.inl rfl) (resAs_cell tf_api_Term rfl rfl rfl (resAs_tmp rfl (resAs_nil))) ?_ ?_
  · rfl
  first | exact ⟨.inl ⟨by simp_all, rfl⟩, rfl⟩ | exact ⟨.inr (by rw [applyT, applyE, if_pos ⟨hml, hmt⟩, if_pos ⟨hml, hmt⟩]; rfl), rfl⟩
end Go.Proofs.Ytdecgkhdbfgldaa

set_option linter.unusedVariables false
set_option linter.unusedSimpArgs false
set_option maxRecDepth 8000
namespace Go.Proofs.Ytdecgkhdbfgldaa
open Go
theorem ins_ris {x : List Bd} {y : Bd} (hr : RisB x) (hh : hasB x y.name = false) : RisB (ins x (posB x y.name) y) := by
  obtain ⟨h1, h2⟩ := posB_spec y.name x
  have hno : ∀ b ∈ x, b.name ≠ y.name := fun b hb e => by
    have : hasB x y.name = true := List.any_eq_true.2 ⟨b, hb, by simpa using e⟩
    rw [hh] at this; cases this
  have hle := posB_le x y.name
  unfold RisB ins
  rw [List.pairwise_append]
  refine ⟨List.Pairwise.sublist (List.take_sublist _ _) hr, List.pairwise_cons.2 ⟨fun b hb => ?_, List.Pairwise.sublist (List.drop_sublist _ _) hr⟩, fun a ha b hb => ?_⟩
  · obtain ⟨j, hj⟩ := List.getElem?_of_mem hb
    rw [List.getElem?_drop] at hj
    have hpos : posB x y.name < x.length := by have := (List.getElem?_eq_some_iff.1 hj).1; omega
    obtain ⟨c, hc⟩ := get_of_lt (l := x) (k := posB x y.name) hpos
    have h3 := h2 c hc
    have h4 : ltS y.name c.name = true := by
      rcases ltS_tri c.name y.name with h | h | h
      · rw [h] at h3; cases h3
      · exact absurd h (hno c (List.mem_of_getElem? hc))
      · exact h
    rcases Nat.eq_zero_or_pos j with rfl | hjp
    · rw [Nat.add_zero, hc] at hj; cases hj; exact h4
    · exact ltS_trans h4 (hr.lt (by omega) hc hj)
  · obtain ⟨i, hi⟩ := List.getElem?_of_mem ha
    rw [List.getElem?_take] at hi
    split at hi
    · rename_i hip
      have h3 := h1 i a hip hi
      rcases List.mem_cons.1 hb with rfl | hb
      · exact h3
      · obtain ⟨j, hj⟩ := List.getElem?_of_mem hb
        rw [List.getElem?_drop] at hj
        exact hr.lt (by omega) hi hj
    · cases hi
end Go.Proofs.Ytdecgkhdbfgldaa

set_option linter.unusedVariables false
set_option linter.unusedSimpArgs false
set_option maxRecDepth 8000
namespace Go.Proofs.Ytdecgkhdbfgldaa
open Go
theorem wfs_one {t : Tm} (ht : t.wf) : Tm.wfs [t] := ⟨(Tm.wf0_iff t).2 ht, trivial⟩
def occB (t : Tm) (s : ByteArray) : Bool := (noteL 5 [t]).any (fun n => decide (n = s))
theorem Index_st_ok (L : List ByteArray) (x : ByteArray) (hlen : L.length ≤ 140737488351232) : AC Try.prog 150 [.dat false 1 (strDs L), sv x] [] (fun r O => (∃ i : Int, r = iv i ∧ (0 ≤ i ↔ x ∈ L)) ∧ O = []) := by
  have hl := strDs_length L
  refine AC_intro Try.func150 rfl Try.ntmps150 (Nat.le_of_ble_eq_true rfl) fun c hL hQ => ?_
  refine awp_seq ?_
  refine awp_region ?_
  refine awps_stp0 rfl rfl (by decide) (stp_move (.inr rfl) rfl) ?_
  refine awps_nil ?_
  refine thenQ_nil ?_
  refine awp_seq ?_
  refine awp_seq ?_
  refine awp_region ?_
  refine awps_stp0 rfl rfl (by decide) (stp_move (.inl rfl) rfl) ?_
  first | refine awps_stp0 rfl rfl (by decide) (stp_len_dat rfl sl_S_string rfl) ?_ | refine awps_stp0 rfl rfl (by decide) (stp_len_rowd rfl sl_S_string rfl rfl) ?_ | refine awps_stp0 rfl rfl (by decide) (stp_len_nil rfl sl_S_string rfl) ?_ | refine awps_stp0 rfl rfl (by decide) (stp_len_vw rfl sl_S_string rfl) ?_
  refine awps_stp0 rfl rfl (by decide) (stp_move (.inl rfl) rfl) ?_
  refine awps_nil ?_
  refine thenQ_nil ?_
  refine awp_block ?_
  refine awp_while (L.length) (fun k => k ≤ L.length ∧ ∀ (j : Nat) (s : ByteArray), j < k → L[j]? = some s → s ≠ x) (fun k => ⟨[(0, .dat false 1 (strDs L)), (1, sv x), (7, iv (strDs L).length), (8, iv (k : Int))], []⟩) (⟨by omega, fun j s hj => absurd hj (by omega)⟩) ?_ (fun k hk hp => ?_)
  · exact sub_re (SubT.cons (lk_eq rfl (by first | rfl | simp)) (SubT.cons (lk_eq rfl (by first | rfl | simp)) (SubT.cons (lk_eq rfl (by first | rfl | simp)) (SubT.cons (lk_eq rfl (by first | rfl | simp)) (SubT.nil))))) (SubO.nil) rfl rfl (noL' (noL hL) _)
  refine awp_seq ?_
  refine awp_region ?_
  refine awps_stp0 rfl rfl (by decide) (stp_binI rfl rfl rfl rfl) ?_
  refine awps_nil ?_
  refine thenQ_nil ?_
  refine awp_seq ?_
  refine awp_cond rfl (fun c0 => ?_) (fun c0 => ?_)
  · try simp only [↓str_beq_t, ↓str_beq_f, decide_eq_true_eq, decide_eq_false_iff_not, Bool.not_eq_true', Bool.not_eq_false', Int.not_lt, Int.not_le, beq_iff_eq, beq_eq_false_iff_ne, bne_iff_ne, bne_eq_false_iff_eq, ne_eq] at c0
    obtain ⟨u, hu⟩ := get_of_lt (l := L) (k := k) (by omega)
    refine awp_skip ?_
    refine thenQ_nil ?_
    refine awp_seq ?_
    refine awp_block ?_
    refine awp_seq ?_
    refine awp_region ?_
    refine awps_stp0 rfl rfl (by decide) (stp_move (.inl rfl) rfl) ?_
    refine awps_stp0 rfl rfl (by decide) (stp_move (.inr rfl) rfl) ?_
    refine awps_nil ?_
    refine thenQ_nil ?_
    refine awp_seq ?_
    refine awp_region ?_
    refine awps_stp0 rfl rfl (by decide) (stp_move (.inl rfl) rfl) ?_
    refine awps_stp0 rfl rfl (by decide) (stp_move (.inl rfl) rfl) ?_
    refine awps_stp0 rfl rfl (by decide) (stp_move (.inl rfl) rfl) ?_
    first | refine awps_stp0 rfl rfl (by decide) (stp_indexAddr rfl sl_S_string rfl rfl (by omega) (strDs_get hu)) ?_ | refine awps_stp0 rfl rfl (by decide) (stp_indexAddr_rowd rfl sl_S_string rfl rfl rfl (by omega) (strDs_get hu)) ?_ | refine awps_stp0 rfl rfl (by decide) (stp_indexAddr_row rfl sl_S_string rfl rfl rfl (by omega) (strDs_get hu) (by decide)) ?_
    first | refine awps_stp0 rfl rfl (by decide) (stp_load rfl tf_string rfl rfl rfl rfl rfl) ?_ | refine awps_stp0 rfl rfl (by decide) (stp_load_elp1 rfl tf_string rfl) ?_ | refine awps_stp0 rfl rfl (by decide) (stp_load_elpn rfl tf_string rfl rfl rfl) ?_
    refine awps_stp0 rfl rfl (by decide) (stp_binS rfl rfl rfl rfl) ?_
    refine awps_nil ?_
    refine thenQ_nil ?_
    refine awp_cond rfl (fun c1 => ?_) (fun c1 => ?_)
    · try simp only [↓str_beq_t, ↓str_beq_f, decide_eq_true_eq, decide_eq_false_iff_not, Bool.not_eq_true', Bool.not_eq_false', Int.not_lt, Int.not_le, beq_iff_eq, beq_eq_false_iff_ne, bne_iff_ne, bne_eq_false_iff_eq, ne_eq] at c1
      refine awp_seq ?_
      refine awp_region ?_
      refine awps_stp0 rfl rfl (by decide) (stp_move (.inl rfl) rfl) ?_
      refine awps_stp0 rfl rfl (by decide) (stp_move (.inr rfl) rfl) ?_
      refine awps_nil ?_
      refine thenQ_nil ?_
      refine awp_ret ?_
      refine inQ_ret (thenQ_ret (thenQ_ret (inQ_ret (thenQ_ret (?_)))))
      -- leaf 0T1T
      refine ret0 (noL hL) (.inl rfl) (resAs_tmp rfl (resAs_nil)) ?_ ?_
      · rfl
      exact ⟨⟨k, rfl, ⟨fun _ => by subst c1; exact List.mem_of_getElem? hu, fun _ => by omega⟩⟩, rfl⟩
    try simp only [↓str_beq_t, ↓str_beq_f, decide_eq_true_eq, decide_eq_false_iff_not, Bool.not_eq_true', Bool.not_eq_false', Int.not_lt, Int.not_le, beq_iff_eq, beq_eq_false_iff_ne, bne_iff_ne, bne_eq_false_iff_eq, ne_eq] at c1
    refine awp_skip ?_
    refine inQ_nil ?_
    refine thenQ_nil ?_
    refine awp_region ?_
    refine awps_stp0 rfl rfl (by decide) (stp_add rfl rfl rfl (by omega)) ?_
    refine awps_stp0 rfl rfl (by decide) (stp_move (.inl rfl) rfl) ?_
    refine awps_nil ?_
    refine thenQ_nil ?_
    refine ⟨?_, ?_, ?_⟩
    · skip
      omega
    · skip
      refine ⟨by omega, fun j s hj hs => ?_⟩
      by_cases hjk : j < k
      · exact hp.2 j s hjk hs
      · rw [show j = k by omega, hu] at hs; cases hs; exact fun e => c1 e.symm
    exact sub_re (SubT.cons (lk_eq rfl (by first | rfl | simp)) (SubT.cons (lk_eq rfl (by first | rfl | simp)) (SubT.cons (lk_eq rfl (by first | rfl | simp)) (SubT.cons (lk_eq rfl (by first | rfl | simp)) (SubT.nil))))) (SubO.nil) rfl rfl (noL' (noL hL) _)
  try simp only [↓str_beq_t, ↓str_beq_f, decide_eq_true_eq, decide_eq_false_iff_not, Bool.not_eq_true', Bool.not_eq_false', Int.not_lt, Int.not_le, beq_iff_eq, beq_eq_false_iff_ne, bne_iff_ne, bne_eq_false_iff_eq, ne_eq] at c0
  refine awp_exit ?_
  refine thenQ_exit (thenQ_exit (inQ_hit ?_))
  refine thenQ_nil ?_
  refine awp_seq ?_
  refine awp_region ?_
  refine awps_stp0 rfl rfl (by decide) (stp_move (.inr rfl) rfl) ?_
  refine awps_nil ?_
  refine thenQ_nil ?_
  refine awp_ret ?_
  -- leaf 0F
  refine ret0 (noL hL) (.inl rfl) (resAs_tmp rfl (resAs_nil)) ?_ ?_
  · rfl
  exact ⟨⟨-1, rfl, ⟨fun h => absurd h (by omega), fun h => by
  obtain ⟨j, hj⟩ := List.getElem?_of_mem h
  exact absurd rfl (hp.2 j x (by have := (List.getElem?_eq_some_iff.1 hj).1; omega) hj)⟩⟩, rfl⟩
theorem Contains_st_ok (L : List ByteArray) (x : ByteArray) (hlen : L.length ≤ 140737488351232) : PF 128 [.dat false 1 (strDs L), sv x] (bv (L.any (fun s => decide (s = x)))) := by
  refine AC_intro Try.func128 rfl Try.ntmps128 (Nat.le_of_ble_eq_true rfl) fun c hL hQ => ?_
  refine awp_seq ?_
  refine awp_region ?_
  refine awps_stp0 rfl rfl (by decide) (stp_move (.inr rfl) rfl) ?_
  refine awps_nil ?_
  refine thenQ_nil ?_
  refine awp_seq ?_
  refine awp_region ?_
  refine awps_stp0 rfl rfl (by decide) (stp_move (.inl rfl) rfl) ?_
  refine awps_stp0 rfl rfl (by decide) (stp_move (.inl rfl) rfl) ?_
  refine awps_callP (avs := [_, _]) false rfl rfl rfl (by decide) en_slices_Index_string_string rfl rfl (Index_st_ok L x hlen) (rfl) (passO .nil) (by rintro r O' ⟨_, rfl⟩; exact frB rfl) (by rintro h; cases h) ?_
  rintro r O' ⟨⟨i, rfl, hi⟩, rfl⟩
  refine awps_stp0 rfl rfl (by decide) (stp_binI rfl rfl rfl rfl) ?_
  refine awps_stp0 rfl rfl (by decide) (stp_move (.inr rfl) rfl) ?_
  refine awps_nil ?_
  refine thenQ_nil ?_
  refine awp_ret ?_
  -- leaf 
  refine ret0 (noL hL) (.inl rfl) (resAs_tmp rfl (resAs_nil)) ?_ ?_
  · rfl
  refine ⟨bool_w ?_, rfl⟩
  rw [Bool.eq_iff_iff]; simp only [List.any_eq_true, decide_eq_true_eq, exists_eq_right]; simp [hi]
def standsL (l : List Bd) (s : ByteArray) (t : Tm) : List Bd := if occB t s = true then [] else standL l s t
def standsE (l : List Bd) (s : ByteArray) (t : Tm) : Int := if occB t s = true then 3 else standE l s t
theorem stands_ok (l : List Bd) (hl : BOk l) (s : ByteArray) (hs : s.size ≤ 140737488351232) (t : Tm) (ht : t.wf) (hm : mayT t = true) : PF 99 [bdA l, sv s, tmA false t] (.tup [.dat true 5 (bdDs (standsL l s t)), iv (standsE l s t)]) := by
  refine AC_leP (Post := fun r O => (occB t s = true ∧ r = .tup [.imm (.slice none 0 0), iv 3] ∨ r = .tup [.dat true 5 (bdDs (standsL l s t)), iv (standsE l s t)]) ∧ O = []) ?_ (fun r O' h => by
    obtain ⟨⟨h1, rfl⟩ | rfl, rfl⟩ := h
    · exact ⟨_, .tup (.cons (.nil (f := true) (k := 5)) (.cons .refl .nil)), by rw [standsL, standsE, if_pos h1, if_pos h1]; rfl, rfl⟩
    · exact ⟨_, .refl, rfl, rfl⟩)
  have hnm := Names_ok 5 [t] (fun u hu => by simp at hu; subst hu; exact (mayT_dle hm).1) (wfs_one ht) (by simp) (by have := (mayT_dle hm).2; simp; omega)
  have hnl := noteL_len 5 [t] []
  have hnd := (mayT_dle hm).2
  rw [tmDs_map] at hnm
  refine AC_intro Try.func99 rfl Try.ntmps99 (Nat.le_of_ble_eq_true rfl) fun c hL hQ => ?_
  refine awp_seq ?_
  refine awp_region ?_
  refine awps_stp1 rfl rfl (by decide) (stp_box 5 rfl rfl rfl) rfl ?_
  refine awps_stp0 rfl rfl (by decide) (stp_move (.inr rfl) rfl) ?_
  refine awps_stp0 rfl rfl (by decide) (stp_move (.inr rfl) rfl) ?_
  refine awps_nil ?_
  refine thenQ_nil ?_
  refine awp_seq ?_
  refine awp_seq ?_
  refine awp_region ?_
  first | refine awps_stp0 rfl rfl (by decide) (stp_load_all rfl tf_api_Term rfl rfl rfl rfl) ?_ | refine awps_stp0 rfl rfl (by decide) (stp_load rfl tf_api_Term rfl rfl rfl rfl rfl) ?_ | refine awps_stp0 rfl rfl (by decide) (stp_load_elpa rfl tf_api_Term rfl rfl) ?_ | refine awps_stp0 rfl rfl (by decide) (stp_load_elpn rfl tf_api_Term rfl rfl rfl) ?_
  refine awps_stp1 rfl rfl (by decide) (stp_buildSlice 9 rfl sl_S_api_Term zv_api_Term rfl rfl (by decide) (by decide) (by decide) rfl rfl rfl) rfl ?_
  refine awps_rowd 9 false 1 rfl rfl rfl rfl ?_
  refine awps_callP (avs := [_]) true rfl rfl rfl (by decide) en_term_Names rfl rfl (hnm) (rfl) (passO .nil) (by rintro r O' ⟨_, rfl⟩; exact frB rfl) (by rintro - r O' ⟨⟨L, _, _, rfl⟩, rfl⟩; exact ⟨rfl, rfl⟩) ?_
  rintro r O' ⟨⟨L, g1, g2, rfl⟩, rfl⟩
  have hLl := rising_len g1 g2
  refine awps_stp0 rfl rfl (by decide) (stp_move (.inl rfl) rfl) ?_
  refine awps_call (avs := [_, _]) true rfl rfl rfl (by decide) en_slices_Contains_string_string rfl rfl (Contains_st_ok L s (by simp only [noteL] at hLl; simp only [List.length_nil, List.map_cons, List.map_nil, List.sum_cons, List.sum_nil] at hnl; omega)) rfl rfl ?_
  refine awps_nil ?_
  refine thenQ_nil ?_
  refine awp_cond rfl (fun c0 => ?_) (fun c0 => ?_)
  · try simp only [↓str_beq_t, ↓str_beq_f, decide_eq_true_eq, decide_eq_false_iff_not, Bool.not_eq_true', Bool.not_eq_false', Int.not_lt, Int.not_le, beq_iff_eq, beq_eq_false_iff_ne, bne_iff_ne, bne_eq_false_iff_eq, ne_eq] at c0
    have hoc : occB t s = true := List.any_eq_true.2 ⟨s, (g2 s).1 (by simpa using c0), by simp⟩
    refine awp_seq ?_
    refine awp_region ?_
    refine awps_stp0 rfl rfl (by decide) (stp_move (.inr rfl) rfl) ?_
    refine awps_stp0 rfl rfl (by decide) (stp_move (.inr rfl) rfl) ?_
    refine awps_nil ?_
    refine thenQ_nil ?_
    refine awp_ret ?_
    refine thenQ_ret (?_)
    -- leaf 0T
    refine ret0 (noL hL) (.inl rfl) (resAs_tmp rfl (resAs_tmp rfl (resAs_nil))) ?_ ?_
    · rfl
    exact ⟨.inl ⟨hoc, rfl⟩, rfl⟩
  try simp only [↓str_beq_t, ↓str_beq_f, decide_eq_true_eq, decide_eq_false_iff_not, Bool.not_eq_true', Bool.not_eq_false', Int.not_lt, Int.not_le, beq_iff_eq, beq_eq_false_iff_ne, bne_iff_ne, bne_eq_false_iff_eq, ne_eq] at c0
  have hoc : occB t s = false := by
    cases h : occB t s with
    | false => rfl
    | true =>
      obtain ⟨n, hn, he⟩ := List.any_eq_true.1 h
      simp only [decide_eq_true_eq] at he; subst he
      exact absurd ((g2 n).2 hn) (fun hin => by simp at c0; exact c0 n hin rfl)
  refine awp_skip ?_
  refine thenQ_nil ?_
  refine awp_seq ?_
  refine awp_region ?_
  refine awps_stp0 rfl rfl (by decide) (stp_move (.inl rfl) rfl) ?_
  refine awps_stp0 rfl rfl (by decide) (stp_move (.inl rfl) rfl) ?_
  first | refine awps_stp0 rfl rfl (by decide) (stp_load_all rfl tf_api_Term rfl rfl rfl rfl) ?_ | refine awps_stp0 rfl rfl (by decide) (stp_load rfl tf_api_Term rfl rfl rfl rfl rfl) ?_ | refine awps_stp0 rfl rfl (by decide) (stp_load_elpa rfl tf_api_Term rfl rfl) ?_ | refine awps_stp0 rfl rfl (by decide) (stp_load_elpn rfl tf_api_Term rfl rfl rfl) ?_
  refine awps_call (avs := [_, _, _]) false rfl rfl rfl (by decide) en_bind_Stand rfl rfl (Stand_ok l hl s hs t ht hm) rfl rfl ?_
  refine awps_stp0 rfl rfl (by decide) (stp_extract rfl rfl rfl) ?_
  refine awps_stp0 rfl rfl (by decide) (stp_extract rfl rfl rfl) ?_
  refine awps_stp0 rfl rfl (by decide) (stp_move (.inr rfl) rfl) ?_
  refine awps_stp0 rfl rfl (by decide) (stp_move (.inr rfl) rfl) ?_
  refine awps_nil ?_
  refine thenQ_nil ?_
  refine awp_ret ?_
  -- leaf 0F
  refine ret0 (noL hL) (.inl rfl) (resAs_tmp rfl (resAs_tmp rfl (resAs_nil))) ?_ ?_
  · rfl
  exact ⟨.inr (by rw [standsL, standsE, if_neg (by simp [hoc]), if_neg (by simp [hoc])]; rfl), rfl⟩
end Go.Proofs.Ytdecgkhdbfgldaa
