/- Walks: which terms may be. -/
import Derived.Test.YtdecgkhdbfgldaaFa
set_option linter.unusedVariables false
set_option linter.unusedSimpArgs false
set_option maxRecDepth 8000
namespace Go.Proofs.Ytdecgkhdbfgldaa
open Go

/-- The objects that a function value reads and writes, round by round. -/
structure Thread (caps : List AV) (Os : Nat → List (Nat × Ob)) : Prop where
  dom : ∀ k l, inD (Os k) l = inD (Os 0) l
  pass : ∀ k, PassO true (Os k) (Os k)
  cvs : ∀ k, AV.cvs true (Os k) (inD (Os k)) caps = caps
  cvs0 : ∀ k, AV.cvs true (Os k) (inD (Os k)) caps = caps
  all : ∀ k, AV.allLs (inD (Os k)) caps = true
  self : ∀ k, allO (inD (Os k)) (Os k) = true
  q : ∀ k, allOQ (fun f => f) (Os k) = true

theorem Thread.nil (caps : List AV) (h : AV.cvs true [] (inD []) caps = caps) (k : AV.allLs (inD []) caps = true) : Thread caps (fun _ => []) where
  dom _ _ := rfl
  pass _ := PassO.nil
  cvs _ := h
  cvs0 _ := h
  all _ := k
  self _ := rfl
  q _ := rfl

theorem IndexFunc_tm_ok (ts : List Tm) (es : List (List D)) (hes : es = ts.map tmD) (hlen : ts.length ≤ 140737488351232) (g : FuncId) (caps : List AV) (hen : Enters Try.prog g) (Os : Nat → List (Nat × Ob)) (p : Nat → Bool) (hO : Thread caps Os)
    (hstep : ∀ k u, ts[k]? = some u → (∀ j, j < k → p j = false) → AC Try.prog g (tmA false u :: caps) (Os k) (fun r O => r = bv (p k) ∧ O = Os (k + 1))) :
    AC Try.prog 149 [.dat false 4 es, .fn g caps] (Os 0) (fun r O => ∃ m n i, m ≤ ts.length ∧ (∀ j, j < m → p j = false) ∧ ((m < ts.length ∧ p m = true ∧ i = (m : Int) ∧ n = m + 1) ∨ (m = ts.length ∧ i = -1 ∧ n = m)) ∧ r = iv i ∧ O = Os n) := by
  have hl : es.length = ts.length := by rw [hes, List.length_map]
  refine AC_intro Try.func149 rfl Try.ntmps149 (Nat.le_of_ble_eq_true rfl) fun c hL => ?_
  refine awp_seq ?_
  refine awp_region ?_
  refine awps_stp0 rfl rfl (by decide) (stp_move (.inr rfl) rfl) ?_
  refine awps_nil ?_
  refine thenQ_nil ?_
  refine awp_seq ?_
  refine awp_seq ?_
  refine awp_region ?_
  refine awps_stp0 rfl rfl (by decide) (stp_move (.inl rfl) rfl) ?_
  first | refine awps_stp0 rfl rfl (by decide) (stp_len_dat rfl sl_S_api_Term rfl) ?_ | refine awps_stp0 rfl rfl (by decide) (stp_len_rowd rfl sl_S_api_Term rfl rfl) ?_ | refine awps_stp0 rfl rfl (by decide) (stp_len_nil rfl sl_S_api_Term rfl) ?_
  refine awps_stp0 rfl rfl (by decide) (stp_move (.inl rfl) rfl) ?_
  refine awps_nil ?_
  refine thenQ_nil ?_
  refine awp_block ?_
  refine awp_while (ts.length) (fun k => k ≤ ts.length ∧ ∀ j, j < k → p j = false) (fun k => ⟨[(0, .dat false 4 es), (1, .fn g caps), (7, iv es.length), (8, iv (k : Int))], Os k⟩) (⟨by omega, fun j hj => absurd hj (by omega)⟩) ?_ (fun k hk hp => ?_)
  · exact sub_re (SubT.cons (lk_eq rfl (by first | rfl | simp)) (SubT.cons (lk_eq rfl (by first | rfl | simp)) (SubT.cons (lk_eq rfl (by first | rfl | simp)) (SubT.cons (lk_eq rfl (by first | rfl | simp)) (SubT.nil))))) (fun _ _ h => h) (by simp [allT, AV.allL, hO.all]) (hO.self _) (fun l hl => by rw [hO.dom]; exact (hL l).1 hl)
  refine awp_seq ?_
  refine awp_region ?_
  refine awps_stp0 rfl rfl (by decide) (stp_binI rfl rfl rfl rfl) ?_
  refine awps_nil ?_
  refine thenQ_nil ?_
  refine awp_seq ?_
  refine awp_cond rfl (fun c0 => ?_) (fun c0 => ?_)
  · try simp only [↓str_beq_t, ↓str_beq_f, decide_eq_true_eq, decide_eq_false_iff_not, Bool.not_eq_true', Bool.not_eq_false', Int.not_lt, Int.not_le, beq_iff_eq, beq_eq_false_iff_ne, bne_iff_ne, bne_eq_false_iff_eq, ne_eq] at c0
    obtain ⟨u, hu⟩ := get_of_lt (l := ts) (k := k) (by omega)
    refine awp_skip ?_
    refine thenQ_nil ?_
    refine awp_seq ?_
    refine awp_block ?_
    refine awp_seq ?_
    refine awp_region ?_
    refine awps_stp0 rfl rfl (by decide) (stp_move (.inl rfl) rfl) ?_
    refine awps_stp0 rfl rfl (by decide) (stp_move (.inr rfl) rfl) ?_
    refine awps_nil ?_
    refine thenQ_nil ?_
    refine awp_seq ?_
    refine awp_region ?_
    refine awps_stp0 rfl rfl (by decide) (stp_move (.inl rfl) rfl) ?_
    refine awps_stp0 rfl rfl (by decide) (stp_move (.inl rfl) rfl) ?_
    refine awps_stp0 rfl rfl (by decide) (stp_move (.inl rfl) rfl) ?_
    first | refine awps_stp0 rfl rfl (by decide) (stp_indexAddr rfl sl_S_api_Term rfl rfl (by omega) (by rw [hes, List.getElem?_map]; exact congrArg (Option.map tmD) hu)) ?_ | refine awps_stp0 rfl rfl (by decide) (stp_indexAddr_rowd rfl sl_S_api_Term rfl rfl rfl (by omega) (by rw [hes, List.getElem?_map]; exact congrArg (Option.map tmD) hu)) ?_ | refine awps_stp0 rfl rfl (by decide) (stp_indexAddr_row rfl sl_S_api_Term rfl rfl rfl (by omega) (by rw [hes, List.getElem?_map]; exact congrArg (Option.map tmD) hu) (by decide)) ?_
    first | refine awps_stp0 rfl rfl (by decide) (stp_load_all rfl tf_api_Term rfl rfl rfl rfl) ?_ | refine awps_stp0 rfl rfl (by decide) (stp_load rfl tf_api_Term rfl rfl rfl rfl rfl) ?_ | refine awps_stp0 rfl rfl (by decide) (stp_load_elpa rfl tf_api_Term rfl rfl) ?_ | refine awps_stp0 rfl rfl (by decide) (stp_load_elpn rfl tf_api_Term rfl rfl rfl) ?_
    refine awps_callP (avs := [_]) true rfl rfl rfl (by decide) hen rfl rfl (hstep k u hu hp.2) (by rw [List.cons_append, List.nil_append]; simp only [AV.cvs, hO.cvs]; rfl) (hO.pass k) (by rintro r O' ⟨_, rfl⟩ l hl; left; rw [hO.dom] at hl ⊢; exact hl) (by rintro - r O' ⟨rfl, rfl⟩; exact ⟨rfl, hO.q _⟩) ?_
    rintro r O' ⟨rfl, rfl⟩
    refine awps_nil ?_
    refine thenQ_nil ?_
    refine awp_cond rfl (fun c1 => ?_) (fun c1 => ?_)
    · try simp only [↓str_beq_t, ↓str_beq_f, decide_eq_true_eq, decide_eq_false_iff_not, Bool.not_eq_true', Bool.not_eq_false', Int.not_lt, Int.not_le, beq_iff_eq, beq_eq_false_iff_ne, bne_iff_ne, bne_eq_false_iff_eq, ne_eq] at c1
      refine awp_seq ?_
      refine awp_region ?_
      refine awps_stp0 rfl rfl (by decide) (stp_move (.inl rfl) rfl) ?_
      refine awps_stp0 rfl rfl (by decide) (stp_move (.inr rfl) rfl) ?_
      refine awps_nil ?_
      refine thenQ_nil ?_
      refine awp_ret ?_
      refine inQ_ret (thenQ_ret (thenQ_ret (inQ_ret (thenQ_ret (?_)))))
      change retQ _ _ _ _ _ _ _
      refine retO (.inl rfl) (resAs_tmp rfl resAs_nil) SubO.left rfl (hO.self _) (fun l hl => by rw [hO.dom]; exact (hL l).1 hl) ?_
      exact ⟨k, _, _, by omega, hp.2, .inl ⟨by omega, c1, rfl, rfl⟩, rfl, rfl⟩
    try simp only [↓str_beq_t, ↓str_beq_f, decide_eq_true_eq, decide_eq_false_iff_not, Bool.not_eq_true', Bool.not_eq_false', Int.not_lt, Int.not_le, beq_iff_eq, beq_eq_false_iff_ne, bne_iff_ne, bne_eq_false_iff_eq, ne_eq] at c1
    refine awp_skip ?_
    refine inQ_nil ?_
    refine thenQ_nil ?_
    refine awp_region ?_
    refine awps_stp0 rfl rfl (by decide) (stp_add rfl rfl rfl (by omega)) ?_
    refine awps_stp0 rfl rfl (by decide) (stp_move (.inl rfl) rfl) ?_
    refine awps_nil ?_
    refine thenQ_nil ?_
    refine ⟨?_, ?_, ?_⟩
    · skip
      omega
    · skip
      refine ⟨by omega, fun j hj => ?_⟩
      by_cases hjk : j < k
      · exact hp.2 j hjk
      · rw [show j = k by omega]; exact c1
    exact sub_re (SubT.cons (lk_eq rfl (by first | rfl | simp)) (SubT.cons (lk_eq rfl (by first | rfl | simp)) (SubT.cons (lk_eq rfl (by first | rfl | simp)) (SubT.cons (lk_eq rfl (by first | rfl | simp)) (SubT.nil))))) (SubO.left) (by simp [allT, AV.allL, hO.all]) (hO.self _) (fun l hl => by rw [hO.dom]; exact (hL l).1 hl)
  try simp only [↓str_beq_t, ↓str_beq_f, decide_eq_true_eq, decide_eq_false_iff_not, Bool.not_eq_true', Bool.not_eq_false', Int.not_lt, Int.not_le, beq_iff_eq, beq_eq_false_iff_ne, bne_iff_ne, bne_eq_false_iff_eq, ne_eq] at c0
  refine awp_exit ?_
  refine thenQ_exit (thenQ_exit (inQ_hit ?_))
  refine thenQ_nil ?_
  refine awp_seq ?_
  refine awp_region ?_
  refine awps_stp0 rfl rfl (by decide) (stp_move (.inr rfl) rfl) ?_
  refine awps_nil ?_
  refine thenQ_nil ?_
  refine awp_ret ?_
  change retQ _ _ _ _ _ _ _
  refine retO (.inl rfl) (resAs_tmp rfl resAs_nil) (fun _ _ h => h) rfl (hO.self _) (fun l hl => by rw [hO.dom]; exact (hL l).1 hl) ?_
  exact ⟨k, _, _, by omega, hp.2, .inr ⟨by omega, rfl, rfl⟩, rfl, rfl⟩

theorem ContainsFunc_tm_ok (ts : List Tm) (es : List (List D)) (hes : es = ts.map tmD) (hlen : ts.length ≤ 140737488351232) (g : FuncId) (caps : List AV) (hen : Enters Try.prog g) (Os : Nat → List (Nat × Ob)) (p : Nat → Bool) (hO : Thread caps Os)
    (hstep : ∀ k u, ts[k]? = some u → (∀ j, j < k → p j = false) → AC Try.prog g (tmA false u :: caps) (Os k) (fun r O => r = bv (p k) ∧ O = Os (k + 1))) :
    AC Try.prog 124 [.dat false 4 es, .fn g caps] (Os 0) (fun r O => ∃ m n b, m ≤ ts.length ∧ (∀ j, j < m → p j = false) ∧ ((m < ts.length ∧ p m = true ∧ b = true ∧ n = m + 1) ∨ (m = ts.length ∧ b = false ∧ n = m)) ∧ r = bv b ∧ O = Os n) := by
  refine AC_intro Try.func124 rfl Try.ntmps124 (Nat.le_of_ble_eq_true rfl) fun c hL => ?_
  refine awp_seq ?_
  refine awp_region ?_
  refine awps_stp0 rfl rfl (by decide) (stp_move (.inr rfl) rfl) ?_
  refine awps_nil ?_
  refine thenQ_nil ?_
  refine awp_seq ?_
  refine awp_region ?_
  refine awps_stp0 rfl rfl (by decide) (stp_move (.inl rfl) rfl) ?_
  refine awps_stp0 rfl rfl (by decide) (stp_move (.inl rfl) rfl) ?_
  refine awps_callP (avs := [_, _]) true rfl rfl rfl (by decide) en_slices_IndexFunc_api_Term_api_Term rfl rfl (IndexFunc_tm_ok ts es hes hlen g caps hen Os p hO hstep) (by simp only [List.append_nil, AV.cvs, AV.cv, hO.cvs]; rfl) (hO.pass 0) (by rintro r O' ⟨m, n, i, _, _, _, _, rfl⟩ l hl; left; rw [hO.dom] at hl ⊢; exact hl) (by rintro - r O' ⟨m, n, i, _, _, _, rfl, rfl⟩; exact ⟨rfl, hO.q _⟩) ?_
  rintro r O' ⟨m, n, i, hm, hf, hc, rfl, rfl⟩
  refine awps_stp0 rfl rfl (by decide) (stp_binI rfl rfl rfl rfl) ?_
  refine awps_stp0 rfl rfl (by decide) (stp_move (.inr rfl) rfl) ?_
  refine awps_nil ?_
  refine thenQ_nil ?_
  refine awp_ret ?_
  -- leaf 
  change retQ _ _ _ _ _ _ _
  refine retO (.inl rfl) (resAs_tmp rfl resAs_nil) SubO.left rfl (hO.self _) (fun l hl => by rw [hO.dom]; exact (hL l).1 hl) ?_
  refine ⟨m, n, _, hm, hf, ?_, rfl, rfl⟩
  rcases hc with ⟨h1, h2, rfl, h3⟩ | ⟨h1, rfl, h3⟩
  · exact .inl ⟨h1, h2, by simp, h3⟩
  · exact .inr ⟨h1, by simp, h3⟩


def mayL (f : Tm → Int → Bool × Int) : List Tm → Int → Bool × Int
  | [], n => (true, n)
  | a :: l, n => if (f a n).1 then mayL f l (f a n).2 else (false, (f a n).2)
def mayS : Nat → Tm → Int → Bool × Int
  | 0, _, n => (false, n - 1)
  | d + 1, t, n =>
    if n - 1 < 0 then (false, n - 1)
    else if t.kind = 1 then (varB t.name && decide (t.n = 0) && decide (t.args.length = 0), n - 1)
    else if t.kind = 2 then (numB t.n && decide (t.name.size = 0) && decide (t.args.length = 0), n - 1)
    else if t.kind = 3 then (if nameB t.name && decide (t.n = 0) && decide (t.args.length ≤ 4) then mayL (mayS d) t.args (n - 1) else (false, n - 1))
    else (false, n - 1)
theorem mayL_range (f : Tm → Int → Bool × Int) (h : ∀ t n, 0 ≤ n → -1 ≤ (f t n).2 ∧ (f t n).2 ≤ n ∧ ((f t n).1 = true → 0 ≤ (f t n).2)) : ∀ (l : List Tm) (n : Int), 0 ≤ n → -1 ≤ (mayL f l n).2 ∧ (mayL f l n).2 ≤ n ∧ ((mayL f l n).1 = true → 0 ≤ (mayL f l n).2)
  | [], n, hn => by simp [mayL]; omega
  | a :: l, n, hn => by
    have h1 := h a n hn
    simp only [mayL]
    split
    · rename_i hb
      have := mayL_range f h l (f a n).2 (h1.2.2 hb)
      exact ⟨this.1, by omega, this.2.2⟩
    · exact ⟨h1.1, h1.2.1, by simp⟩
theorem mayS_range : ∀ (d : Nat) (t : Tm) (n : Int), 0 ≤ n → -1 ≤ (mayS d t n).2 ∧ (mayS d t n).2 ≤ n ∧ ((mayS d t n).1 = true → 0 ≤ (mayS d t n).2)
  | 0, t, n, hn => by simp [mayS]; omega
  | d + 1, t, n, hn => by
    simp only [mayS]
    split
    · simp; omega
    split
    · simp; omega
    split
    · simp; omega
    split
    · split
      · have := mayL_range (mayS d) (fun t n hn => mayS_range d t n hn) t.args (n - 1) (by omega)
        exact ⟨this.1, by omega, this.2.2⟩
      · simp; omega
    · simp; omega
def mayK0 (f : Tm → Int → Bool × Int) : Nat → List Tm → Int → Int
  | 0, _, n => n
  | _ + 1, [], n => n
  | k + 1, a :: l, n => mayK0 f k l (f a n).2
def mayK (f : Tm → Int → Bool × Int) (l : List Tm) (n : Int) (k : Nat) : Int := mayK0 f k l n
def mayP (f : Tm → Int → Bool × Int) : List Tm → Int → Nat → Bool
  | [], _, _ => false
  | a :: _, n, 0 => !(f a n).1
  | a :: l, n, k + 1 => mayP f l (f a n).2 k
theorem mayK_step (f : Tm → Int → Bool × Int) : ∀ (l : List Tm) (n : Int) (k : Nat) (u : Tm), l[k]? = some u → (∀ j, j < k → mayP f l n j = false) → mayP f l n k = !(f u (mayK f l n k)).1 ∧ mayK f l n (k + 1) = (f u (mayK f l n k)).2
  | [], n, k, u, hu, _ => by simp at hu
  | a :: l, n, 0, u, hu, _ => by
    simp only [List.getElem?_cons_zero, Option.some.injEq] at hu
    subst hu
    cases l <;> simp [mayP, mayK, mayK0]
  | a :: l, n, k + 1, u, hu, h => by
    simpa only [mayP, mayK, mayK0] using mayK_step f l (f a n).2 k u (by simpa using hu) (fun j hj => by simpa [mayP] using h (j + 1) (by omega))
theorem mayK_range (f : Tm → Int → Bool × Int) (h : ∀ t n, 0 ≤ n → -1 ≤ (f t n).2 ∧ (f t n).2 ≤ n ∧ ((f t n).1 = true → 0 ≤ (f t n).2)) : ∀ (l : List Tm) (n : Int) (k : Nat), 0 ≤ n → (∀ j, j < k → mayP f l n j = false) → k ≤ l.length → 0 ≤ mayK f l n k ∧ mayK f l n k ≤ n
  | l, n, 0, hn, _, _ => by cases l <;> simp [mayK, mayK0] <;> omega
  | [], n, k + 1, hn, _, hk => by simp at hk
  | a :: l, n, k + 1, hn, hj, hk => by
    have h0 := hj 0 (by omega)
    simp only [mayP, Bool.not_eq_false'] at h0
    have h1 := h a n hn
    have := mayK_range f h l (f a n).2 k (h1.2.2 h0) (fun j hj' => by simpa [mayP] using hj (j + 1) (by omega)) (by simpa using hk)
    simp only [mayK, mayK0] at this ⊢; omega
theorem mayL_end (f : Tm → Int → Bool × Int) : ∀ (l : List Tm) (n : Int) (m k : Nat) (b : Bool), (∀ j, j < m → mayP f l n j = false) → ((m < l.length ∧ mayP f l n m = true ∧ b = true ∧ k = m + 1) ∨ (m = l.length ∧ b = false ∧ k = m)) → mayL f l n = (!b, mayK f l n k)
  | [], n, m, k, b, _, hc => by
    rcases hc with ⟨h, _⟩ | ⟨rfl, rfl, rfl⟩
    · simp at h
    · simp [mayL, mayK, mayK0]
  | a :: l, n, 0, k, b, _, hc => by
    rcases hc with ⟨_, h, rfl, rfl⟩ | ⟨h, _⟩
    · simp only [mayP, Bool.not_eq_true'] at h
      cases l <;> simp [mayL, mayK, mayK0, h]
    · simp at h
  | a :: l, n, m + 1, k, b, hj, hc => by
    have h0 := hj 0 (by omega)
    simp only [mayP, Bool.not_eq_false'] at h0
    obtain ⟨k, rfl⟩ : ∃ k', k = k' + 1 := by rcases hc with ⟨_, _, _, rfl⟩ | ⟨_, _, rfl⟩ <;> exact ⟨_, rfl⟩
    have := mayL_end f l (f a n).2 m k b (fun j hj' => by simpa [mayP] using hj (j + 1) (by omega)) (by
      rcases hc with ⟨h1, h2, h3, h4⟩ | ⟨h1, h2, h3⟩
      · exact .inl ⟨by simpa using h1, by simpa [mayP] using h2, h3, by omega⟩
      · exact .inr ⟨by simpa using h1, h2, by omega⟩)
    simp only [mayL, h0, if_true, this, mayK, mayK0]

def MayC (d : Nat) : Prop := ∀ (e : Int), e = d → ∀ (t : Tm) (n : Int), t.wf → 0 ≤ n → n ≤ 24 → AC Try.prog 87 [tmA false t, iv e, .ptr 0 0] [(0, .box [iv n])] (fun r O => r = bv (mayS d t n).1 ∧ O = [(0, .box [iv (mayS d t n).2])])

theorem may1_ok (d : Nat) (hd : d < 5) (ih : MayC d) (e : Int) (he : e = d + 1) (t : Tm) (n : Int) (ht : t.wf) (h0 : 0 ≤ n) (h1 : n ≤ 24) : AC Try.prog 122 [tmA false t, .ptr 4 0, .ptr 5 0] [(4, .box [iv e]), (5, .box [.ptr 0 0]), (0, .box [iv n])]
    (fun r O => r = bv (!(mayS d t n).1) ∧ O = [(4, .box [iv e]), (5, .box [.ptr 0 0]), (0, .box [iv (mayS d t n).2])]) := by
  refine AC_intro Try.func122 rfl Try.ntmps122 (Nat.le_of_ble_eq_true rfl) fun c hL => ?_
  refine awp_seq ?_
  refine awp_region ?_
  refine awps_stp1 rfl rfl (by decide) (stp_box 3 rfl rfl rfl) rfl ?_
  refine awps_stp0 rfl rfl (by decide) (stp_move (.inr rfl) rfl) ?_
  refine awps_nil ?_
  refine thenQ_nil ?_
  refine awp_seq ?_
  refine awp_region ?_
  first | refine awps_stp0 rfl rfl (by decide) (stp_load_all rfl tf_api_Term rfl rfl rfl rfl) ?_ | refine awps_stp0 rfl rfl (by decide) (stp_load rfl tf_api_Term rfl rfl rfl rfl rfl) ?_ | refine awps_stp0 rfl rfl (by decide) (stp_load_elpa rfl tf_api_Term rfl rfl) ?_ | refine awps_stp0 rfl rfl (by decide) (stp_load_elpn rfl tf_api_Term rfl rfl rfl) ?_
  first | refine awps_stp0 rfl rfl (by decide) (stp_load rfl tf_int rfl rfl rfl rfl rfl) ?_ | refine awps_stp0 rfl rfl (by decide) (stp_load_elp1 rfl tf_int rfl) ?_ | refine awps_stp0 rfl rfl (by decide) (stp_load_elpn rfl tf_int rfl rfl rfl) ?_
  refine awps_stp0 rfl rfl (by decide) (stp_sub rfl rfl rfl (by omega)) ?_
  first | refine awps_stp0 rfl rfl (by decide) (stp_load rfl tf_P_int rfl rfl rfl rfl rfl) ?_ | refine awps_stp0 rfl rfl (by decide) (stp_load_elp1 rfl tf_P_int rfl) ?_ | refine awps_stp0 rfl rfl (by decide) (stp_load_elpn rfl tf_P_int rfl rfl rfl) ?_
  refine awps_callP (avs := [_, _, _]) true rfl rfl rfl (by decide) en_term_may rfl rfl (ih (e - 1) (by omega) t n ht h0 h1) (rfl) (passO (.cons rfl trivial rfl .nil)) (by rintro r O' ⟨rfl, rfl⟩ l hl; exact .inl ((inD_dom (by rfl) l).trans hl)) (by rintro - r O' ⟨rfl, rfl⟩; exact ⟨rfl, rfl⟩) ?_
  rintro r O' ⟨rfl, rfl⟩
  refine awps_stp0 rfl rfl (by decide) (stp_not rfl rfl) ?_
  refine awps_stp0 rfl rfl (by decide) (stp_move (.inr rfl) rfl) ?_
  refine awps_nil ?_
  refine thenQ_nil ?_
  refine awp_ret ?_
  -- leaf 
  change retQ _ _ _ _ _ _ _
  refine retO (O' := [(4, _), (5, _), (0, _)]) (.inl rfl) (resAs_tmp rfl resAs_nil) (SubO.cons rfl (SubO.cons rfl (SubO.cons rfl SubO.nil))) ?_ ?_ ?_ ?_
  · rfl
  · rfl
  · exact LO hL rfl
  · exact ⟨rfl, rfl⟩

theorem mayfin {D : Nat} {t : Tm} {n m : Int} {b : Bool} (h : mayS D t n = (b, m)) : resV [bv b] = bv (mayS D t n).1 ∧ [(0, Ob.box [iv m])] = [(0, Ob.box [iv (mayS D t n).2])] := by rw [h]; exact ⟨rfl, rfl⟩

theorem may_ok : ∀ d : Nat, d ≤ 5 → MayC d := by
  intro d
  induction d with
  | zero =>
    intro hd e he t n ht h0 h1
    refine AC_intro Try.func87 rfl Try.ntmps87 (Nat.le_of_ble_eq_true rfl) fun c hL => ?_
    refine awp_seq ?_
    refine awp_region ?_
    refine awps_stp1 rfl rfl (by decide) (stp_box 3 rfl rfl rfl) rfl ?_
    refine awps_stp1 rfl rfl (by decide) (stp_box 4 rfl rfl rfl) rfl ?_
    refine awps_stp1 rfl rfl (by decide) (stp_box 5 rfl rfl rfl) rfl ?_
    refine awps_stp0 rfl rfl (by decide) (stp_move (.inr rfl) rfl) ?_
    refine awps_nil ?_
    refine thenQ_nil ?_
    refine awp_seq ?_
    refine awp_region ?_
    first | refine awps_stp0 rfl rfl (by decide) (stp_load rfl tf_P_int rfl rfl rfl rfl rfl) ?_ | refine awps_stp0 rfl rfl (by decide) (stp_load_elp1 rfl tf_P_int rfl) ?_ | refine awps_stp0 rfl rfl (by decide) (stp_load_elpn rfl tf_P_int rfl rfl rfl) ?_
    refine awps_stp0 rfl rfl (by decide) (stp_nilCheck rfl rfl) ?_
    first | refine awps_stp0 rfl rfl (by decide) (stp_load rfl tf_int rfl rfl rfl rfl rfl) ?_ | refine awps_stp0 rfl rfl (by decide) (stp_load_elp1 rfl tf_int rfl) ?_ | refine awps_stp0 rfl rfl (by decide) (stp_load_elpn rfl tf_int rfl rfl rfl) ?_
    refine awps_stp0 rfl rfl (by decide) (stp_sub rfl rfl rfl (by omega)) ?_
    refine awps_stp0 rfl rfl (by decide) (stp_nilCheck rfl rfl) ?_
    refine awps_store rfl rfl rfl tf_int rfl rfl rfl rfl rfl rfl rfl rfl rfl ?_
    refine awps_nil ?_
    refine thenQ_nil ?_
    refine awp_seq ?_
    refine awp_seq ?_
    refine awp_region ?_
    first | refine awps_stp0 rfl rfl (by decide) (stp_load rfl tf_int rfl rfl rfl rfl rfl) ?_ | refine awps_stp0 rfl rfl (by decide) (stp_load_elp1 rfl tf_int rfl) ?_ | refine awps_stp0 rfl rfl (by decide) (stp_load_elpn rfl tf_int rfl rfl rfl) ?_
    refine awps_stp0 rfl rfl (by decide) (stp_binI rfl rfl rfl rfl) ?_
    refine awps_stp0 rfl rfl (by decide) (stp_move (.inl rfl) rfl) ?_
    refine awps_split 15 rfl (fun g15 => ?_) (fun g15 => ?_)
    · try simp only [↓str_beq_t, ↓str_beq_f, decide_eq_true_eq, decide_eq_false_iff_not, Bool.not_eq_true', Bool.not_eq_false', Int.not_lt, Int.not_le, beq_iff_eq, beq_eq_false_iff_ne, bne_iff_ne, bne_eq_false_iff_eq, ne_eq] at g15
      refine awps_gs rfl rfl rfl rfl (by decide) rfl (by decide) ?_
      refine awps_gs rfl rfl rfl rfl (by decide) rfl (by decide) ?_
      refine awps_gs rfl rfl rfl rfl (by decide) rfl (by decide) ?_
      refine awps_gs rfl rfl rfl rfl (by decide) rfl (by decide) ?_
      refine awps_stp0 rfl rfl (by decide) (stp_pick rfl rfl rfl) ?_
      refine awps_nil ?_
      refine thenQ_nil ?_
      refine awp_condT rfl ?_
      refine awp_seq ?_
      refine awp_region ?_
      refine awps_stp0 rfl rfl (by decide) (stp_move (.inr rfl) rfl) ?_
      refine awps_nil ?_
      refine thenQ_nil ?_
      refine awp_ret ?_
      refine thenQ_ret (?_)
      -- leaf g15T
      change retQ _ _ _ _ _ _ _
      refine retO (O' := [(0, _)]) (.inl rfl) (resAs_tmp rfl resAs_nil) (SubO.cons rfl SubO.nil) ?_ ?_ ?_ ?_
      · rfl
      · rfl
      · exact LO hL rfl
      exact mayfin (by simp [mayS])
    try simp only [↓str_beq_t, ↓str_beq_f, decide_eq_true_eq, decide_eq_false_iff_not, Bool.not_eq_true', Bool.not_eq_false', Int.not_lt, Int.not_le, beq_iff_eq, beq_eq_false_iff_ne, bne_iff_ne, bne_eq_false_iff_eq, ne_eq] at g15
    omega
  | succ d ih =>
    intro hd e he t n ht h0 h1
    have hlen := tmDs_length t.args
    have hal := ht.2.2.2.1
    refine AC_intro Try.func87 rfl Try.ntmps87 (Nat.le_of_ble_eq_true rfl) fun c hL => ?_
    refine awp_seq ?_
    refine awp_region ?_
    refine awps_stp1 rfl rfl (by decide) (stp_box 3 rfl rfl rfl) rfl ?_
    refine awps_stp1 rfl rfl (by decide) (stp_box 4 rfl rfl rfl) rfl ?_
    refine awps_stp1 rfl rfl (by decide) (stp_box 5 rfl rfl rfl) rfl ?_
    refine awps_stp0 rfl rfl (by decide) (stp_move (.inr rfl) rfl) ?_
    refine awps_nil ?_
    refine thenQ_nil ?_
    refine awp_seq ?_
    refine awp_region ?_
    first | refine awps_stp0 rfl rfl (by decide) (stp_load rfl tf_P_int rfl rfl rfl rfl rfl) ?_ | refine awps_stp0 rfl rfl (by decide) (stp_load_elp1 rfl tf_P_int rfl) ?_ | refine awps_stp0 rfl rfl (by decide) (stp_load_elpn rfl tf_P_int rfl rfl rfl) ?_
    refine awps_stp0 rfl rfl (by decide) (stp_nilCheck rfl rfl) ?_
    first | refine awps_stp0 rfl rfl (by decide) (stp_load rfl tf_int rfl rfl rfl rfl rfl) ?_ | refine awps_stp0 rfl rfl (by decide) (stp_load_elp1 rfl tf_int rfl) ?_ | refine awps_stp0 rfl rfl (by decide) (stp_load_elpn rfl tf_int rfl rfl rfl) ?_
    refine awps_stp0 rfl rfl (by decide) (stp_sub rfl rfl rfl (by omega)) ?_
    refine awps_stp0 rfl rfl (by decide) (stp_nilCheck rfl rfl) ?_
    refine awps_store rfl rfl rfl tf_int rfl rfl rfl rfl rfl rfl rfl rfl rfl ?_
    refine awps_nil ?_
    refine thenQ_nil ?_
    refine awp_seq ?_
    refine awp_seq ?_
    refine awp_region ?_
    first | refine awps_stp0 rfl rfl (by decide) (stp_load rfl tf_int rfl rfl rfl rfl rfl) ?_ | refine awps_stp0 rfl rfl (by decide) (stp_load_elp1 rfl tf_int rfl) ?_ | refine awps_stp0 rfl rfl (by decide) (stp_load_elpn rfl tf_int rfl rfl rfl) ?_
    refine awps_stp0 rfl rfl (by decide) (stp_binI rfl rfl rfl rfl) ?_
    refine awps_stp0 rfl rfl (by decide) (stp_move (.inl rfl) rfl) ?_
    refine awps_split 15 rfl (fun g15 => ?_) (fun g15 => ?_)
    · try simp only [↓str_beq_t, ↓str_beq_f, decide_eq_true_eq, decide_eq_false_iff_not, Bool.not_eq_true', Bool.not_eq_false', Int.not_lt, Int.not_le, beq_iff_eq, beq_eq_false_iff_ne, bne_iff_ne, bne_eq_false_iff_eq, ne_eq] at g15
      omega
    try simp only [↓str_beq_t, ↓str_beq_f, decide_eq_true_eq, decide_eq_false_iff_not, Bool.not_eq_true', Bool.not_eq_false', Int.not_lt, Int.not_le, beq_iff_eq, beq_eq_false_iff_ne, bne_iff_ne, bne_eq_false_iff_eq, ne_eq] at g15
    first | refine awps_g0 rfl rfl rfl (by decide) rfl (by decide) (stp_load rfl tf_P_int rfl rfl rfl rfl rfl) ?_ | refine awps_g0 rfl rfl rfl (by decide) rfl (by decide) (stp_load_elp1 rfl tf_P_int rfl) ?_ | refine awps_g0 rfl rfl rfl (by decide) rfl (by decide) (stp_load_elpn rfl tf_P_int rfl rfl rfl) ?_
    refine awps_g0 rfl rfl rfl (by decide) rfl (by decide) (stp_nilCheck rfl rfl) ?_
    first | refine awps_g0 rfl rfl rfl (by decide) rfl (by decide) (stp_load rfl tf_int rfl rfl rfl rfl rfl) ?_ | refine awps_g0 rfl rfl rfl (by decide) rfl (by decide) (stp_load_elp1 rfl tf_int rfl) ?_ | refine awps_g0 rfl rfl rfl (by decide) rfl (by decide) (stp_load_elpn rfl tf_int rfl rfl rfl) ?_
    refine awps_g0 rfl rfl rfl (by decide) rfl (by decide) (stp_binI rfl rfl rfl rfl) ?_
    refine awps_stp0 rfl rfl (by decide) (stp_pick rfl rfl rfl) ?_
    refine awps_nil ?_
    refine thenQ_nil ?_
    refine awp_cond rfl (fun c0 => ?_) (fun c0 => ?_)
    · try simp only [↓str_beq_t, ↓str_beq_f, decide_eq_true_eq, decide_eq_false_iff_not, Bool.not_eq_true', Bool.not_eq_false', Int.not_lt, Int.not_le, beq_iff_eq, beq_eq_false_iff_ne, bne_iff_ne, bne_eq_false_iff_eq, ne_eq] at c0
      refine awp_seq ?_
      refine awp_region ?_
      refine awps_stp0 rfl rfl (by decide) (stp_move (.inr rfl) rfl) ?_
      refine awps_nil ?_
      refine thenQ_nil ?_
      refine awp_ret ?_
      refine thenQ_ret (?_)
      change retQ _ _ _ _ _ _ _
      refine retO (O' := [(0, _)]) (.inl rfl) (resAs_tmp rfl resAs_nil) (SubO.cons rfl SubO.nil) ?_ ?_ ?_ ?_
      · rfl
      · rfl
      · exact LO hL rfl
      refine mayfin ?_
      rw [mayS, if_pos (by omega)]
    try simp only [↓str_beq_t, ↓str_beq_f, decide_eq_true_eq, decide_eq_false_iff_not, Bool.not_eq_true', Bool.not_eq_false', Int.not_lt, Int.not_le, beq_iff_eq, beq_eq_false_iff_ne, bne_iff_ne, bne_eq_false_iff_eq, ne_eq] at c0
    refine awp_skip ?_
    refine thenQ_nil ?_
    refine awp_seq ?_
    refine awp_seq ?_
    refine awp_region ?_
    first | refine awps_stp0 rfl rfl (by decide) (stp_fieldAddr rfl fo_api_Term_0 rfl) ?_ | refine awps_stp0 rfl rfl (by decide) (stp_fieldAddr_elp rfl fo_api_Term_0 rfl) ?_
    first | refine awps_stp0 rfl rfl (by decide) (stp_load rfl tf_int rfl rfl rfl rfl rfl) ?_ | refine awps_stp0 rfl rfl (by decide) (stp_load_elp1 rfl tf_int rfl) ?_ | refine awps_stp0 rfl rfl (by decide) (stp_load_elpn rfl tf_int rfl rfl rfl) ?_
    refine awps_nil ?_
    refine thenQ_nil ?_
    refine awp_block ?_
    refine awp_seq ?_
    refine awp_region ?_
    refine awps_stp0 rfl rfl (by decide) (stp_binI rfl rfl rfl rfl) ?_
    refine awps_stp0 rfl rfl (by decide) (stp_move (.inr rfl) rfl) ?_
    refine awps_nil ?_
    refine thenQ_nil ?_
    refine awp_cond rfl (fun c1 => ?_) (fun c1 => ?_)
    · try simp only [↓str_beq_t, ↓str_beq_f, decide_eq_true_eq, decide_eq_false_iff_not, Bool.not_eq_true', Bool.not_eq_false', Int.not_lt, Int.not_le, beq_iff_eq, beq_eq_false_iff_ne, bne_iff_ne, bne_eq_false_iff_eq, ne_eq] at c1
      refine awp_seq ?_
      refine awp_region ?_
      first | refine awps_stp0 rfl rfl (by decide) (stp_fieldAddr rfl fo_api_Term_1 rfl) ?_ | refine awps_stp0 rfl rfl (by decide) (stp_fieldAddr_elp rfl fo_api_Term_1 rfl) ?_
      first | refine awps_stp0 rfl rfl (by decide) (stp_load rfl tf_string rfl rfl rfl rfl rfl) ?_ | refine awps_stp0 rfl rfl (by decide) (stp_load_elp1 rfl tf_string rfl) ?_ | refine awps_stp0 rfl rfl (by decide) (stp_load_elpn rfl tf_string rfl rfl rfl) ?_
      refine awps_call (avs := [_]) true rfl rfl rfl (by decide) en_term_Var rfl rfl (Var_ok _) rfl rfl ?_
      refine awps_stp0 rfl rfl (by decide) (stp_move (.inl rfl) rfl) ?_
      refine awps_split 28 rfl (fun g28 => ?_) (fun g28 => ?_)
      · try simp only [↓str_beq_t, ↓str_beq_f, decide_eq_true_eq, decide_eq_false_iff_not, Bool.not_eq_true', Bool.not_eq_false', Int.not_lt, Int.not_le, beq_iff_eq, beq_eq_false_iff_ne, bne_iff_ne, bne_eq_false_iff_eq, ne_eq] at g28
        first | refine awps_g0 rfl rfl rfl (by decide) rfl (by decide) (stp_fieldAddr rfl fo_api_Term_2 rfl) ?_ | refine awps_g0 rfl rfl rfl (by decide) rfl (by decide) (stp_fieldAddr_elp rfl fo_api_Term_2 rfl) ?_
        first | refine awps_g0 rfl rfl rfl (by decide) rfl (by decide) (stp_load rfl tf_int rfl rfl rfl rfl rfl) ?_ | refine awps_g0 rfl rfl rfl (by decide) rfl (by decide) (stp_load_elp1 rfl tf_int rfl) ?_ | refine awps_g0 rfl rfl rfl (by decide) rfl (by decide) (stp_load_elpn rfl tf_int rfl rfl rfl) ?_
        refine awps_g0 rfl rfl rfl (by decide) rfl (by decide) (stp_binI rfl rfl rfl rfl) ?_
        refine awps_stp0 rfl rfl (by decide) (stp_pick rfl rfl rfl) ?_
        refine awps_stp0 rfl rfl (by decide) (stp_move (.inl rfl) rfl) ?_
        refine awps_split 33 rfl (fun g33 => ?_) (fun g33 => ?_)
        · try simp only [↓str_beq_t, ↓str_beq_f, decide_eq_true_eq, decide_eq_false_iff_not, Bool.not_eq_true', Bool.not_eq_false', Int.not_lt, Int.not_le, beq_iff_eq, beq_eq_false_iff_ne, bne_iff_ne, bne_eq_false_iff_eq, ne_eq] at g33
          first | refine awps_g0 rfl rfl rfl (by decide) rfl (by decide) (stp_fieldAddr rfl fo_api_Term_3 rfl) ?_ | refine awps_g0 rfl rfl rfl (by decide) rfl (by decide) (stp_fieldAddr_elp rfl fo_api_Term_3 rfl) ?_
          first | refine awps_g0 rfl rfl rfl (by decide) rfl (by decide) (stp_load rfl tf_S_api_Term rfl rfl rfl rfl rfl) ?_ | refine awps_g0 rfl rfl rfl (by decide) rfl (by decide) (stp_load_elp1 rfl tf_S_api_Term rfl) ?_ | refine awps_g0 rfl rfl rfl (by decide) rfl (by decide) (stp_load_elpn rfl tf_S_api_Term rfl rfl rfl) ?_
          first | refine awps_g0 rfl rfl rfl (by decide) rfl (by decide) (stp_len_dat rfl sl_S_api_Term rfl) ?_ | refine awps_g0 rfl rfl rfl (by decide) rfl (by decide) (stp_len_rowd rfl sl_S_api_Term rfl rfl) ?_ | refine awps_g0 rfl rfl rfl (by decide) rfl (by decide) (stp_len_nil rfl sl_S_api_Term rfl) ?_
          refine awps_g0 rfl rfl rfl (by decide) rfl (by decide) (stp_binI rfl rfl rfl rfl) ?_
          refine awps_stp0 rfl rfl (by decide) (stp_pick rfl rfl rfl) ?_
          refine awps_stp0 rfl rfl (by decide) (stp_move (.inr rfl) rfl) ?_
          refine awps_nil ?_
          refine thenQ_nil ?_
          refine awp_ret ?_
          refine inQ_ret (thenQ_ret (?_))
          -- leaf g15F0F1Tg28Tg33T
          change retQ _ _ _ _ _ _ _
          refine retO (O' := [(0, _)]) (.inl rfl) (resAs_tmp rfl resAs_nil) (SubO.cons rfl SubO.nil) ?_ ?_ ?_ ?_
          · rfl
          · rfl
          · exact LO hL rfl
          refine mayfin ?_
          rw [mayS, if_neg (by omega)]
          simp_all [natBeq0]
          try (intro hx; omega)
        try simp only [↓str_beq_t, ↓str_beq_f, decide_eq_true_eq, decide_eq_false_iff_not, Bool.not_eq_true', Bool.not_eq_false', Int.not_lt, Int.not_le, beq_iff_eq, beq_eq_false_iff_ne, bne_iff_ne, bne_eq_false_iff_eq, ne_eq] at g33
        refine awps_gs rfl rfl rfl rfl (by decide) rfl (by decide) ?_
        refine awps_gs rfl rfl rfl rfl (by decide) rfl (by decide) ?_
        refine awps_gs rfl rfl rfl rfl (by decide) rfl (by decide) ?_
        refine awps_gs rfl rfl rfl rfl (by decide) rfl (by decide) ?_
        refine awps_stp0 rfl rfl (by decide) (stp_pick rfl rfl rfl) ?_
        refine awps_stp0 rfl rfl (by decide) (stp_move (.inr rfl) rfl) ?_
        refine awps_nil ?_
        refine thenQ_nil ?_
        refine awp_ret ?_
        refine inQ_ret (thenQ_ret (?_))
        -- leaf g15F0F1Tg28Tg33F
        change retQ _ _ _ _ _ _ _
        refine retO (O' := [(0, _)]) (.inl rfl) (resAs_tmp rfl resAs_nil) (SubO.cons rfl SubO.nil) ?_ ?_ ?_ ?_
        · rfl
        · rfl
        · exact LO hL rfl
        refine mayfin ?_
        rw [mayS, if_neg (by omega)]
        simp_all [natBeq0]
        try (intro hx; omega)
      try simp only [↓str_beq_t, ↓str_beq_f, decide_eq_true_eq, decide_eq_false_iff_not, Bool.not_eq_true', Bool.not_eq_false', Int.not_lt, Int.not_le, beq_iff_eq, beq_eq_false_iff_ne, bne_iff_ne, bne_eq_false_iff_eq, ne_eq] at g28
      refine awps_gs rfl rfl rfl rfl (by decide) rfl (by decide) ?_
      refine awps_gs rfl rfl rfl rfl (by decide) rfl (by decide) ?_
      refine awps_gs rfl rfl rfl rfl (by decide) rfl (by decide) ?_
      refine awps_stp0 rfl rfl (by decide) (stp_pick rfl rfl rfl) ?_
      refine awps_stp0 rfl rfl (by decide) (stp_move (.inl rfl) rfl) ?_
      refine awps_gs rfl rfl rfl rfl (by decide) rfl (by decide) ?_
      refine awps_gs rfl rfl rfl rfl (by decide) rfl (by decide) ?_
      refine awps_gs rfl rfl rfl rfl (by decide) rfl (by decide) ?_
      refine awps_gs rfl rfl rfl rfl (by decide) rfl (by decide) ?_
      refine awps_stp0 rfl rfl (by decide) (stp_pick rfl rfl rfl) ?_
      refine awps_stp0 rfl rfl (by decide) (stp_move (.inr rfl) rfl) ?_
      refine awps_nil ?_
      refine thenQ_nil ?_
      refine awp_ret ?_
      refine inQ_ret (thenQ_ret (?_))
      -- leaf g15F0F1Tg28F
      change retQ _ _ _ _ _ _ _
      refine retO (O' := [(0, _)]) (.inl rfl) (resAs_tmp rfl resAs_nil) (SubO.cons rfl SubO.nil) ?_ ?_ ?_ ?_
      · rfl
      · rfl
      · exact LO hL rfl
      refine mayfin ?_
      rw [mayS, if_neg (by omega)]
      simp_all [natBeq0]
      try (intro hx; omega)
    try simp only [↓str_beq_t, ↓str_beq_f, decide_eq_true_eq, decide_eq_false_iff_not, Bool.not_eq_true', Bool.not_eq_false', Int.not_lt, Int.not_le, beq_iff_eq, beq_eq_false_iff_ne, bne_iff_ne, bne_eq_false_iff_eq, ne_eq] at c1
    refine awp_seq ?_
    refine awp_region ?_
    refine awps_stp0 rfl rfl (by decide) (stp_binI rfl rfl rfl rfl) ?_
    refine awps_stp0 rfl rfl (by decide) (stp_move (.inr rfl) rfl) ?_
    refine awps_nil ?_
    refine thenQ_nil ?_
    refine awp_cond rfl (fun c2 => ?_) (fun c2 => ?_)
    · try simp only [↓str_beq_t, ↓str_beq_f, decide_eq_true_eq, decide_eq_false_iff_not, Bool.not_eq_true', Bool.not_eq_false', Int.not_lt, Int.not_le, beq_iff_eq, beq_eq_false_iff_ne, bne_iff_ne, bne_eq_false_iff_eq, ne_eq] at c2
      refine awp_seq ?_
      refine awp_region ?_
      first | refine awps_stp0 rfl rfl (by decide) (stp_fieldAddr rfl fo_api_Term_2 rfl) ?_ | refine awps_stp0 rfl rfl (by decide) (stp_fieldAddr_elp rfl fo_api_Term_2 rfl) ?_
      first | refine awps_stp0 rfl rfl (by decide) (stp_load rfl tf_int rfl rfl rfl rfl rfl) ?_ | refine awps_stp0 rfl rfl (by decide) (stp_load_elp1 rfl tf_int rfl) ?_ | refine awps_stp0 rfl rfl (by decide) (stp_load_elpn rfl tf_int rfl rfl rfl) ?_
      refine awps_call (avs := [_]) true rfl rfl rfl (by decide) en_term_Number rfl rfl (Number_ok _) rfl rfl ?_
      refine awps_stp0 rfl rfl (by decide) (stp_move (.inl rfl) rfl) ?_
      refine awps_split 44 rfl (fun g44 => ?_) (fun g44 => ?_)
      · try simp only [↓str_beq_t, ↓str_beq_f, decide_eq_true_eq, decide_eq_false_iff_not, Bool.not_eq_true', Bool.not_eq_false', Int.not_lt, Int.not_le, beq_iff_eq, beq_eq_false_iff_ne, bne_iff_ne, bne_eq_false_iff_eq, ne_eq] at g44
        first | refine awps_g0 rfl rfl rfl (by decide) rfl (by decide) (stp_fieldAddr rfl fo_api_Term_1 rfl) ?_ | refine awps_g0 rfl rfl rfl (by decide) rfl (by decide) (stp_fieldAddr_elp rfl fo_api_Term_1 rfl) ?_
        first | refine awps_g0 rfl rfl rfl (by decide) rfl (by decide) (stp_load rfl tf_string rfl rfl rfl rfl rfl) ?_ | refine awps_g0 rfl rfl rfl (by decide) rfl (by decide) (stp_load_elp1 rfl tf_string rfl) ?_ | refine awps_g0 rfl rfl rfl (by decide) rfl (by decide) (stp_load_elpn rfl tf_string rfl rfl rfl) ?_
        refine awps_g0 rfl rfl rfl (by decide) rfl (by decide) (stp_binS rfl rfl rfl rfl) ?_
        refine awps_stp0 rfl rfl (by decide) (stp_pick rfl rfl rfl) ?_
        refine awps_stp0 rfl rfl (by decide) (stp_move (.inl rfl) rfl) ?_
        refine awps_split 49 rfl (fun g49 => ?_) (fun g49 => ?_)
        · try simp only [↓str_beq_t, ↓str_beq_f, decide_eq_true_eq, decide_eq_false_iff_not, Bool.not_eq_true', Bool.not_eq_false', Int.not_lt, Int.not_le, beq_iff_eq, beq_eq_false_iff_ne, bne_iff_ne, bne_eq_false_iff_eq, ne_eq] at g49
          have g49 := size_zero.2 g49
          first | refine awps_g0 rfl rfl rfl (by decide) rfl (by decide) (stp_fieldAddr rfl fo_api_Term_3 rfl) ?_ | refine awps_g0 rfl rfl rfl (by decide) rfl (by decide) (stp_fieldAddr_elp rfl fo_api_Term_3 rfl) ?_
          first | refine awps_g0 rfl rfl rfl (by decide) rfl (by decide) (stp_load rfl tf_S_api_Term rfl rfl rfl rfl rfl) ?_ | refine awps_g0 rfl rfl rfl (by decide) rfl (by decide) (stp_load_elp1 rfl tf_S_api_Term rfl) ?_ | refine awps_g0 rfl rfl rfl (by decide) rfl (by decide) (stp_load_elpn rfl tf_S_api_Term rfl rfl rfl) ?_
          first | refine awps_g0 rfl rfl rfl (by decide) rfl (by decide) (stp_len_dat rfl sl_S_api_Term rfl) ?_ | refine awps_g0 rfl rfl rfl (by decide) rfl (by decide) (stp_len_rowd rfl sl_S_api_Term rfl rfl) ?_ | refine awps_g0 rfl rfl rfl (by decide) rfl (by decide) (stp_len_nil rfl sl_S_api_Term rfl) ?_
          refine awps_g0 rfl rfl rfl (by decide) rfl (by decide) (stp_binI rfl rfl rfl rfl) ?_
          refine awps_stp0 rfl rfl (by decide) (stp_pick rfl rfl rfl) ?_
          refine awps_stp0 rfl rfl (by decide) (stp_move (.inr rfl) rfl) ?_
          refine awps_nil ?_
          refine thenQ_nil ?_
          refine awp_ret ?_
          refine inQ_ret (thenQ_ret (?_))
          -- leaf g15F0F1F2Tg44Tg49T
          change retQ _ _ _ _ _ _ _
          refine retO (O' := [(0, _)]) (.inl rfl) (resAs_tmp rfl resAs_nil) (SubO.cons rfl SubO.nil) ?_ ?_ ?_ ?_
          · rfl
          · rfl
          · exact LO hL rfl
          refine mayfin ?_
          rw [mayS, if_neg (by omega)]
          simp_all [natBeq0]
          try (intro hx; omega)
        try simp only [↓str_beq_t, ↓str_beq_f, decide_eq_true_eq, decide_eq_false_iff_not, Bool.not_eq_true', Bool.not_eq_false', Int.not_lt, Int.not_le, beq_iff_eq, beq_eq_false_iff_ne, bne_iff_ne, bne_eq_false_iff_eq, ne_eq] at g49
        have g49 : ¬ t.name.size = 0 := mt size_zero.1 g49
        refine awps_gs rfl rfl rfl rfl (by decide) rfl (by decide) ?_
        refine awps_gs rfl rfl rfl rfl (by decide) rfl (by decide) ?_
        refine awps_gs rfl rfl rfl rfl (by decide) rfl (by decide) ?_
        refine awps_gs rfl rfl rfl rfl (by decide) rfl (by decide) ?_
        refine awps_stp0 rfl rfl (by decide) (stp_pick rfl rfl rfl) ?_
        refine awps_stp0 rfl rfl (by decide) (stp_move (.inr rfl) rfl) ?_
        refine awps_nil ?_
        refine thenQ_nil ?_
        refine awp_ret ?_
        refine inQ_ret (thenQ_ret (?_))
        -- leaf g15F0F1F2Tg44Tg49F
        change retQ _ _ _ _ _ _ _
        refine retO (O' := [(0, _)]) (.inl rfl) (resAs_tmp rfl resAs_nil) (SubO.cons rfl SubO.nil) ?_ ?_ ?_ ?_
        · rfl
        · rfl
        · exact LO hL rfl
        refine mayfin ?_
        rw [mayS, if_neg (by omega)]
        simp_all [natBeq0]
        try (intro hx; omega)
      try simp only [↓str_beq_t, ↓str_beq_f, decide_eq_true_eq, decide_eq_false_iff_not, Bool.not_eq_true', Bool.not_eq_false', Int.not_lt, Int.not_le, beq_iff_eq, beq_eq_false_iff_ne, bne_iff_ne, bne_eq_false_iff_eq, ne_eq] at g44
      refine awps_gs rfl rfl rfl rfl (by decide) rfl (by decide) ?_
      refine awps_gs rfl rfl rfl rfl (by decide) rfl (by decide) ?_
      refine awps_gs rfl rfl rfl rfl (by decide) rfl (by decide) ?_
      refine awps_stp0 rfl rfl (by decide) (stp_pick rfl rfl rfl) ?_
      refine awps_stp0 rfl rfl (by decide) (stp_move (.inl rfl) rfl) ?_
      refine awps_gs rfl rfl rfl rfl (by decide) rfl (by decide) ?_
      refine awps_gs rfl rfl rfl rfl (by decide) rfl (by decide) ?_
      refine awps_gs rfl rfl rfl rfl (by decide) rfl (by decide) ?_
      refine awps_gs rfl rfl rfl rfl (by decide) rfl (by decide) ?_
      refine awps_stp0 rfl rfl (by decide) (stp_pick rfl rfl rfl) ?_
      refine awps_stp0 rfl rfl (by decide) (stp_move (.inr rfl) rfl) ?_
      refine awps_nil ?_
      refine thenQ_nil ?_
      refine awp_ret ?_
      refine inQ_ret (thenQ_ret (?_))
      -- leaf g15F0F1F2Tg44F
      change retQ _ _ _ _ _ _ _
      refine retO (O' := [(0, _)]) (.inl rfl) (resAs_tmp rfl resAs_nil) (SubO.cons rfl SubO.nil) ?_ ?_ ?_ ?_
      · rfl
      · rfl
      · exact LO hL rfl
      refine mayfin ?_
      rw [mayS, if_neg (by omega)]
      simp_all [natBeq0]
      try (intro hx; omega)
    try simp only [↓str_beq_t, ↓str_beq_f, decide_eq_true_eq, decide_eq_false_iff_not, Bool.not_eq_true', Bool.not_eq_false', Int.not_lt, Int.not_le, beq_iff_eq, beq_eq_false_iff_ne, bne_iff_ne, bne_eq_false_iff_eq, ne_eq] at c2
    refine awp_seq ?_
    refine awp_region ?_
    refine awps_stp0 rfl rfl (by decide) (stp_binI rfl rfl rfl rfl) ?_
    refine awps_stp0 rfl rfl (by decide) (stp_move (.inr rfl) rfl) ?_
    refine awps_nil ?_
    refine thenQ_nil ?_
    refine awp_cond rfl (fun c3 => ?_) (fun c3 => ?_)
    · try simp only [↓str_beq_t, ↓str_beq_f, decide_eq_true_eq, decide_eq_false_iff_not, Bool.not_eq_true', Bool.not_eq_false', Int.not_lt, Int.not_le, beq_iff_eq, beq_eq_false_iff_ne, bne_iff_ne, bne_eq_false_iff_eq, ne_eq] at c3
      refine awp_seq ?_
      refine awp_region ?_
      refine awps_stp0 rfl rfl (by decide) (stp_makeFunc (vs := [_, _]) rfl rfl) ?_
      refine awps_stp0 rfl rfl (by decide) (stp_move (.inr rfl) rfl) ?_
      refine awps_nil ?_
      refine thenQ_nil ?_
      refine awp_seq ?_
      refine awp_region ?_
      first | refine awps_stp0 rfl rfl (by decide) (stp_fieldAddr rfl fo_api_Term_1 rfl) ?_ | refine awps_stp0 rfl rfl (by decide) (stp_fieldAddr_elp rfl fo_api_Term_1 rfl) ?_
      first | refine awps_stp0 rfl rfl (by decide) (stp_load rfl tf_string rfl rfl rfl rfl rfl) ?_ | refine awps_stp0 rfl rfl (by decide) (stp_load_elp1 rfl tf_string rfl) ?_ | refine awps_stp0 rfl rfl (by decide) (stp_load_elpn rfl tf_string rfl rfl rfl) ?_
      refine awps_call (avs := [_]) true rfl rfl rfl (by decide) en_term_Name rfl rfl (Name_ok _) rfl rfl ?_
      refine awps_stp0 rfl rfl (by decide) (stp_move (.inl rfl) rfl) ?_
      refine awps_split 61 rfl (fun g61 => ?_) (fun g61 => ?_)
      · try simp only [↓str_beq_t, ↓str_beq_f, decide_eq_true_eq, decide_eq_false_iff_not, Bool.not_eq_true', Bool.not_eq_false', Int.not_lt, Int.not_le, beq_iff_eq, beq_eq_false_iff_ne, bne_iff_ne, bne_eq_false_iff_eq, ne_eq] at g61
        first | refine awps_g0 rfl rfl rfl (by decide) rfl (by decide) (stp_fieldAddr rfl fo_api_Term_2 rfl) ?_ | refine awps_g0 rfl rfl rfl (by decide) rfl (by decide) (stp_fieldAddr_elp rfl fo_api_Term_2 rfl) ?_
        first | refine awps_g0 rfl rfl rfl (by decide) rfl (by decide) (stp_load rfl tf_int rfl rfl rfl rfl rfl) ?_ | refine awps_g0 rfl rfl rfl (by decide) rfl (by decide) (stp_load_elp1 rfl tf_int rfl) ?_ | refine awps_g0 rfl rfl rfl (by decide) rfl (by decide) (stp_load_elpn rfl tf_int rfl rfl rfl) ?_
        refine awps_g0 rfl rfl rfl (by decide) rfl (by decide) (stp_binI rfl rfl rfl rfl) ?_
        refine awps_stp0 rfl rfl (by decide) (stp_pick rfl rfl rfl) ?_
        refine awps_stp0 rfl rfl (by decide) (stp_move (.inl rfl) rfl) ?_
        refine awps_split 66 rfl (fun g66 => ?_) (fun g66 => ?_)
        · try simp only [↓str_beq_t, ↓str_beq_f, decide_eq_true_eq, decide_eq_false_iff_not, Bool.not_eq_true', Bool.not_eq_false', Int.not_lt, Int.not_le, beq_iff_eq, beq_eq_false_iff_ne, bne_iff_ne, bne_eq_false_iff_eq, ne_eq] at g66
          first | refine awps_g0 rfl rfl rfl (by decide) rfl (by decide) (stp_fieldAddr rfl fo_api_Term_3 rfl) ?_ | refine awps_g0 rfl rfl rfl (by decide) rfl (by decide) (stp_fieldAddr_elp rfl fo_api_Term_3 rfl) ?_
          first | refine awps_g0 rfl rfl rfl (by decide) rfl (by decide) (stp_load rfl tf_S_api_Term rfl rfl rfl rfl rfl) ?_ | refine awps_g0 rfl rfl rfl (by decide) rfl (by decide) (stp_load_elp1 rfl tf_S_api_Term rfl) ?_ | refine awps_g0 rfl rfl rfl (by decide) rfl (by decide) (stp_load_elpn rfl tf_S_api_Term rfl rfl rfl) ?_
          first | refine awps_g0 rfl rfl rfl (by decide) rfl (by decide) (stp_len_dat rfl sl_S_api_Term rfl) ?_ | refine awps_g0 rfl rfl rfl (by decide) rfl (by decide) (stp_len_rowd rfl sl_S_api_Term rfl rfl) ?_ | refine awps_g0 rfl rfl rfl (by decide) rfl (by decide) (stp_len_nil rfl sl_S_api_Term rfl) ?_
          refine awps_g0 rfl rfl rfl (by decide) rfl (by decide) (stp_binI rfl rfl rfl rfl) ?_
          refine awps_stp0 rfl rfl (by decide) (stp_pick rfl rfl rfl) ?_
          refine awps_stp0 rfl rfl (by decide) (stp_move (.inl rfl) rfl) ?_
          refine awps_split 72 rfl (fun g72 => ?_) (fun g72 => ?_)
          · try simp only [↓str_beq_t, ↓str_beq_f, decide_eq_true_eq, decide_eq_false_iff_not, Bool.not_eq_true', Bool.not_eq_false', Int.not_lt, Int.not_le, beq_iff_eq, beq_eq_false_iff_ne, bne_iff_ne, bne_eq_false_iff_eq, ne_eq] at g72
            have g72 : t.args.length ≤ 4 := by omega
            first | refine awps_g0 rfl rfl rfl (by decide) rfl (by decide) (stp_fieldAddr rfl fo_api_Term_3 rfl) ?_ | refine awps_g0 rfl rfl rfl (by decide) rfl (by decide) (stp_fieldAddr_elp rfl fo_api_Term_3 rfl) ?_
            first | refine awps_g0 rfl rfl rfl (by decide) rfl (by decide) (stp_load rfl tf_S_api_Term rfl rfl rfl rfl rfl) ?_ | refine awps_g0 rfl rfl rfl (by decide) rfl (by decide) (stp_load_elp1 rfl tf_S_api_Term rfl) ?_ | refine awps_g0 rfl rfl rfl (by decide) rfl (by decide) (stp_load_elpn rfl tf_S_api_Term rfl rfl rfl) ?_
            refine awps_g0 rfl rfl rfl (by decide) rfl (by decide) (stp_move (.inl rfl) rfl) ?_
            have hst : ∀ k u, t.args[k]? = some u → (∀ j, j < k → mayP (mayS d) t.args (n - 1) j = false) → AC Try.prog 122 [tmA false u, .ptr 4 0, .ptr 5 0] [(4, .box [iv e]), (5, .box [.ptr 0 0]), (0, .box [iv (mayK (mayS d) t.args (n - 1) k)])]
                (fun r O => r = bv (mayP (mayS d) t.args (n - 1) k) ∧ O = [(4, .box [iv e]), (5, .box [.ptr 0 0]), (0, .box [iv (mayK (mayS d) t.args (n - 1) (k + 1))])]) := fun k u hu hj => by
              obtain ⟨e1, e2⟩ := mayK_step (mayS d) t.args (n - 1) k u hu hj
              have hkl : k < t.args.length := by have := List.getElem?_eq_some_iff.1 hu; exact this.1
              have hr := mayK_range (mayS d) (fun t n hn => mayS_range d t n hn) t.args (n - 1) k (by omega) hj (by omega)
              rw [e1, e2]
              exact may1_ok d (by omega) (ih (by omega)) e (by omega) u _ (Tm.wfs_get ht.2.2.2.2 hu) hr.1 (by omega)
            refine awps_gcallP (avs := [_, _]) true rfl rfl rfl (by decide) rfl rfl (by decide) en_slices_ContainsFunc_api_Term_api_Term rfl rfl (ContainsFunc_tm_ok t.args _ (tmDs_map _) (by omega) _ [.ptr 4 0, .ptr 5 0] en_term_may_1 (fun k => [(4, .box [iv e]), (5, .box [.ptr 0 0]), (0, .box [iv (mayK (mayS d) t.args (n - 1) k)])]) (mayP (mayS d) t.args (n - 1)) ⟨fun k l => inD_dom (by rfl) l, fun k => passO (.cons rfl trivial rfl (.cons rfl trivial rfl (.cons rfl trivial rfl .nil))), fun k => rfl, fun k => rfl, fun k => rfl, fun k => rfl, fun k => rfl⟩ (fun k u hu hj => hst k u hu hj)) (rfl) (passO (.cons rfl trivial rfl (.cons rfl trivial rfl (.cons rfl trivial rfl .nil)))) (by rintro r O' ⟨m, k, b, _, _, _, _, rfl⟩ l hl; exact .inl ((inD_dom (by rfl) l).trans hl)) (by rintro - r O' ⟨m, k, b, _, _, _, rfl, rfl⟩; exact ⟨rfl, rfl⟩) ?_
            rintro r O' ⟨m, k, b, hm, hf, hc, rfl, rfl⟩
            refine awps_g0 rfl rfl rfl (by decide) rfl (by decide) (stp_not rfl rfl) ?_
            refine awps_stp0 rfl rfl (by decide) (stp_pick rfl rfl rfl) ?_
            refine awps_stp0 rfl rfl (by decide) (stp_move (.inr rfl) rfl) ?_
            refine awps_nil ?_
            refine thenQ_nil ?_
            refine awp_ret ?_
            refine inQ_ret (thenQ_ret (?_))
            change retQ _ _ _ _ _ _ _
            refine retO (O' := [(0, _)]) (.inl rfl) (resAs_tmp rfl resAs_nil) (SubO.cons rfl SubO.nil) ?_ ?_ ?_ ?_
            · rfl
            · rfl
            · exact LO hL rfl
            refine mayfin ?_
            rw [mayS, if_neg (by omega)]
            simp_all
            exact mayL_end (mayS d) t.args (n - 1) m k b hf hc
          try simp only [↓str_beq_t, ↓str_beq_f, decide_eq_true_eq, decide_eq_false_iff_not, Bool.not_eq_true', Bool.not_eq_false', Int.not_lt, Int.not_le, beq_iff_eq, beq_eq_false_iff_ne, bne_iff_ne, bne_eq_false_iff_eq, ne_eq] at g72
          have g72 : ¬ t.args.length ≤ 4 := by omega
          refine awps_gs rfl rfl rfl rfl (by decide) rfl (by decide) ?_
          refine awps_gs rfl rfl rfl rfl (by decide) rfl (by decide) ?_
          refine awps_gs rfl rfl rfl rfl (by decide) rfl (by decide) ?_
          have hst : ∀ k u, t.args[k]? = some u → (∀ j, j < k → mayP (mayS d) t.args (n - 1) j = false) → AC Try.prog 122 [tmA false u, .ptr 4 0, .ptr 5 0] [(4, .box [iv e]), (5, .box [.ptr 0 0]), (0, .box [iv (mayK (mayS d) t.args (n - 1) k)])]
              (fun r O => r = bv (mayP (mayS d) t.args (n - 1) k) ∧ O = [(4, .box [iv e]), (5, .box [.ptr 0 0]), (0, .box [iv (mayK (mayS d) t.args (n - 1) (k + 1))])]) := fun k u hu hj => by
            obtain ⟨e1, e2⟩ := mayK_step (mayS d) t.args (n - 1) k u hu hj
            have hkl : k < t.args.length := by have := List.getElem?_eq_some_iff.1 hu; exact this.1
            have hr := mayK_range (mayS d) (fun t n hn => mayS_range d t n hn) t.args (n - 1) k (by omega) hj (by omega)
            rw [e1, e2]
            exact may1_ok d (by omega) (ih (by omega)) e (by omega) u _ (Tm.wfs_get ht.2.2.2.2 hu) hr.1 (by omega)
          refine awps_gs rfl rfl rfl rfl (by decide) rfl (by decide) ?_
          refine awps_gs rfl rfl rfl rfl (by decide) rfl (by decide) ?_
          refine awps_stp0 rfl rfl (by decide) (stp_pick rfl rfl rfl) ?_
          refine awps_stp0 rfl rfl (by decide) (stp_move (.inr rfl) rfl) ?_
          refine awps_nil ?_
          refine thenQ_nil ?_
          refine awp_ret ?_
          refine inQ_ret (thenQ_ret (?_))
          -- leaf g15F0F1F2F3Tg61Tg66Tg72F
          change retQ _ _ _ _ _ _ _
          refine retO (O' := [(0, _)]) (.inl rfl) (resAs_tmp rfl resAs_nil) (SubO.cons rfl SubO.nil) ?_ ?_ ?_ ?_
          · rfl
          · rfl
          · exact LO hL rfl
          refine mayfin ?_
          rw [mayS, if_neg (by omega)]
          simp_all [natBeq0]
          try (intro hx; omega)
        try simp only [↓str_beq_t, ↓str_beq_f, decide_eq_true_eq, decide_eq_false_iff_not, Bool.not_eq_true', Bool.not_eq_false', Int.not_lt, Int.not_le, beq_iff_eq, beq_eq_false_iff_ne, bne_iff_ne, bne_eq_false_iff_eq, ne_eq] at g66
        refine awps_gs rfl rfl rfl rfl (by decide) rfl (by decide) ?_
        refine awps_gs rfl rfl rfl rfl (by decide) rfl (by decide) ?_
        refine awps_gs rfl rfl rfl rfl (by decide) rfl (by decide) ?_
        refine awps_gs rfl rfl rfl rfl (by decide) rfl (by decide) ?_
        refine awps_stp0 rfl rfl (by decide) (stp_pick rfl rfl rfl) ?_
        refine awps_stp0 rfl rfl (by decide) (stp_move (.inl rfl) rfl) ?_
        refine awps_gs rfl rfl rfl rfl (by decide) rfl (by decide) ?_
        refine awps_gs rfl rfl rfl rfl (by decide) rfl (by decide) ?_
        refine awps_gs rfl rfl rfl rfl (by decide) rfl (by decide) ?_
        have hst : ∀ k u, t.args[k]? = some u → (∀ j, j < k → mayP (mayS d) t.args (n - 1) j = false) → AC Try.prog 122 [tmA false u, .ptr 4 0, .ptr 5 0] [(4, .box [iv e]), (5, .box [.ptr 0 0]), (0, .box [iv (mayK (mayS d) t.args (n - 1) k)])]
            (fun r O => r = bv (mayP (mayS d) t.args (n - 1) k) ∧ O = [(4, .box [iv e]), (5, .box [.ptr 0 0]), (0, .box [iv (mayK (mayS d) t.args (n - 1) (k + 1))])]) := fun k u hu hj => by
          obtain ⟨e1, e2⟩ := mayK_step (mayS d) t.args (n - 1) k u hu hj
          have hkl : k < t.args.length := by have := List.getElem?_eq_some_iff.1 hu; exact this.1
          have hr := mayK_range (mayS d) (fun t n hn => mayS_range d t n hn) t.args (n - 1) k (by omega) hj (by omega)
          rw [e1, e2]
          exact may1_ok d (by omega) (ih (by omega)) e (by omega) u _ (Tm.wfs_get ht.2.2.2.2 hu) hr.1 (by omega)
        refine awps_gs rfl rfl rfl rfl (by decide) rfl (by decide) ?_
        refine awps_gs rfl rfl rfl rfl (by decide) rfl (by decide) ?_
        refine awps_stp0 rfl rfl (by decide) (stp_pick rfl rfl rfl) ?_
        refine awps_stp0 rfl rfl (by decide) (stp_move (.inr rfl) rfl) ?_
        refine awps_nil ?_
        refine thenQ_nil ?_
        refine awp_ret ?_
        refine inQ_ret (thenQ_ret (?_))
        -- leaf g15F0F1F2F3Tg61Tg66F
        change retQ _ _ _ _ _ _ _
        refine retO (O' := [(0, _)]) (.inl rfl) (resAs_tmp rfl resAs_nil) (SubO.cons rfl SubO.nil) ?_ ?_ ?_ ?_
        · rfl
        · rfl
        · exact LO hL rfl
        refine mayfin ?_
        rw [mayS, if_neg (by omega)]
        simp_all [natBeq0]
        try (intro hx; omega)
      try simp only [↓str_beq_t, ↓str_beq_f, decide_eq_true_eq, decide_eq_false_iff_not, Bool.not_eq_true', Bool.not_eq_false', Int.not_lt, Int.not_le, beq_iff_eq, beq_eq_false_iff_ne, bne_iff_ne, bne_eq_false_iff_eq, ne_eq] at g61
      refine awps_gs rfl rfl rfl rfl (by decide) rfl (by decide) ?_
      refine awps_gs rfl rfl rfl rfl (by decide) rfl (by decide) ?_
      refine awps_gs rfl rfl rfl rfl (by decide) rfl (by decide) ?_
      refine awps_stp0 rfl rfl (by decide) (stp_pick rfl rfl rfl) ?_
      refine awps_stp0 rfl rfl (by decide) (stp_move (.inl rfl) rfl) ?_
      refine awps_gs rfl rfl rfl rfl (by decide) rfl (by decide) ?_
      refine awps_gs rfl rfl rfl rfl (by decide) rfl (by decide) ?_
      refine awps_gs rfl rfl rfl rfl (by decide) rfl (by decide) ?_
      refine awps_gs rfl rfl rfl rfl (by decide) rfl (by decide) ?_
      refine awps_stp0 rfl rfl (by decide) (stp_pick rfl rfl rfl) ?_
      refine awps_stp0 rfl rfl (by decide) (stp_move (.inl rfl) rfl) ?_
      refine awps_gs rfl rfl rfl rfl (by decide) rfl (by decide) ?_
      refine awps_gs rfl rfl rfl rfl (by decide) rfl (by decide) ?_
      refine awps_gs rfl rfl rfl rfl (by decide) rfl (by decide) ?_
      have hst : ∀ k u, t.args[k]? = some u → (∀ j, j < k → mayP (mayS d) t.args (n - 1) j = false) → AC Try.prog 122 [tmA false u, .ptr 4 0, .ptr 5 0] [(4, .box [iv e]), (5, .box [.ptr 0 0]), (0, .box [iv (mayK (mayS d) t.args (n - 1) k)])]
          (fun r O => r = bv (mayP (mayS d) t.args (n - 1) k) ∧ O = [(4, .box [iv e]), (5, .box [.ptr 0 0]), (0, .box [iv (mayK (mayS d) t.args (n - 1) (k + 1))])]) := fun k u hu hj => by
        obtain ⟨e1, e2⟩ := mayK_step (mayS d) t.args (n - 1) k u hu hj
        have hkl : k < t.args.length := by have := List.getElem?_eq_some_iff.1 hu; exact this.1
        have hr := mayK_range (mayS d) (fun t n hn => mayS_range d t n hn) t.args (n - 1) k (by omega) hj (by omega)
        rw [e1, e2]
        exact may1_ok d (by omega) (ih (by omega)) e (by omega) u _ (Tm.wfs_get ht.2.2.2.2 hu) hr.1 (by omega)
      refine awps_gs rfl rfl rfl rfl (by decide) rfl (by decide) ?_
      refine awps_gs rfl rfl rfl rfl (by decide) rfl (by decide) ?_
      refine awps_stp0 rfl rfl (by decide) (stp_pick rfl rfl rfl) ?_
      refine awps_stp0 rfl rfl (by decide) (stp_move (.inr rfl) rfl) ?_
      refine awps_nil ?_
      refine thenQ_nil ?_
      refine awp_ret ?_
      refine inQ_ret (thenQ_ret (?_))
      -- leaf g15F0F1F2F3Tg61F
      change retQ _ _ _ _ _ _ _
      refine retO (O' := [(0, _)]) (.inl rfl) (resAs_tmp rfl resAs_nil) (SubO.cons rfl SubO.nil) ?_ ?_ ?_ ?_
      · rfl
      · rfl
      · exact LO hL rfl
      refine mayfin ?_
      rw [mayS, if_neg (by omega)]
      simp_all [natBeq0]
      try (intro hx; omega)
    try simp only [↓str_beq_t, ↓str_beq_f, decide_eq_true_eq, decide_eq_false_iff_not, Bool.not_eq_true', Bool.not_eq_false', Int.not_lt, Int.not_le, beq_iff_eq, beq_eq_false_iff_ne, bne_iff_ne, bne_eq_false_iff_eq, ne_eq] at c3
    refine awp_skip ?_
    refine inQ_nil ?_
    refine thenQ_nil ?_
    refine awp_seq ?_
    refine awp_region ?_
    refine awps_stp0 rfl rfl (by decide) (stp_move (.inr rfl) rfl) ?_
    refine awps_nil ?_
    refine thenQ_nil ?_
    refine awp_ret ?_
    -- leaf g15F0F1F2F3F
    change retQ _ _ _ _ _ _ _
    refine retO (O' := [(0, _)]) (.inl rfl) (resAs_tmp rfl resAs_nil) (SubO.cons rfl SubO.nil) ?_ ?_ ?_ ?_
    · rfl
    · rfl
    · exact LO hL rfl
    refine mayfin ?_
    rw [mayS, if_neg (by omega)]
    simp_all [natBeq0]
    try (intro hx; omega)

def mayT (t : Tm) : Bool := (mayS 5 t 24).1
theorem May_ok (t : Tm) (ht : t.wf) : PF 48 [tmA false t] (bv (mayT t)) := by
  have key := AC_rnE 0 3 (may_ok 5 (by omega) 5 rfl t 24 ht (by omega) (by omega))
  refine AC_intro Try.func48 rfl Try.ntmps48 (Nat.le_of_ble_eq_true rfl) fun c hL => ?_
  refine awp_seq ?_
  refine awp_region ?_
  refine awps_stp1 rfl rfl (by decide) (stp_box 1 rfl rfl rfl) rfl ?_
  refine awps_stp0 rfl rfl (by decide) (stp_move (.inr rfl) rfl) ?_
  refine awps_nil ?_
  refine thenQ_nil ?_
  refine awp_seq ?_
  refine awp_region ?_
  refine awps_stp1 rfl rfl (by decide) (stp_alloc 3 rfl zv_int rfl) rfl ?_
  refine awps_store rfl rfl rfl tf_int rfl rfl rfl rfl rfl rfl rfl rfl rfl ?_
  refine awps_nil ?_
  refine thenQ_nil ?_
  refine awp_seq ?_
  refine awp_region ?_
  first | refine awps_stp0 rfl rfl (by decide) (stp_load_all rfl tf_api_Term rfl rfl rfl rfl) ?_ | refine awps_stp0 rfl rfl (by decide) (stp_load rfl tf_api_Term rfl rfl rfl rfl rfl) ?_ | refine awps_stp0 rfl rfl (by decide) (stp_load_elpa rfl tf_api_Term rfl rfl) ?_ | refine awps_stp0 rfl rfl (by decide) (stp_load_elpn rfl tf_api_Term rfl rfl rfl) ?_
  refine awps_callP (avs := [_, _, _]) true rfl rfl rfl (by decide) en_term_may rfl rfl (key) (rfl) (passO (.cons rfl trivial rfl .nil)) (by rintro r O' ⟨rfl, rfl⟩ l hl; exact .inl ((inD_dom (by rfl) l).trans hl)) (by rintro - r O' ⟨rfl, rfl⟩; exact ⟨rfl, rfl⟩) ?_
  rintro r O' ⟨rfl, rfl⟩
  refine awps_stp0 rfl rfl (by decide) (stp_move (.inr rfl) rfl) ?_
  refine awps_nil ?_
  refine thenQ_nil ?_
  refine awp_ret ?_
  -- leaf 
  refine ret0 (noL hL) (.inl rfl) (resAs_tmp rfl (resAs_nil)) ?_ ?_
  · rfl
  exact ⟨rfl, rfl⟩
end Go.Proofs.Ytdecgkhdbfgldaa
