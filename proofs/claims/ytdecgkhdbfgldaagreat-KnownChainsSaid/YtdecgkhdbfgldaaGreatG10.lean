/- Part 10 of the proof: Kf, Kh, Ki, Ib, Kl, Kk, Kj. -/
import Derived.Test.YtdecgkhdbfgldaaGreatG9
set_option linter.unusedVariables false
set_option linter.unusedSimpArgs false
set_option maxRecDepth 8000
namespace Go.Proofs.YtdecgkhdbfgldaaGreat
open Go Go.Maps
theorem srtU_perm {l : List Tm} (hd : ∀ a ∈ l, dle 5 a) (hn : l.Nodup) : (srtU l).Perm l :=
  (List.perm_ext_iff_of_nodup (srtU_ss hd).nodup hn).2 fun _ => srtU_mem hd
def allR (cs : List Cl) : Nat → List Tm → List Tm × Int
  | 0, _ => ([], 2)
  | n + 1, k => if (nextL cs k).length = 0 then (k, 0) else if 60 < k.length + (nextL cs k).length then ([], 2) else allR cs n (srtU (k ++ nextL cs k))
def okC (c : Cl) : Bool := decide (clauseE c = 0)
def allC (cs : List Cl) : List Tm × Int := if cs.all okC then allR cs 61 [] else ([], 1)
structure Kn (k : List Tm) : Prop where
  atk : ∀ t ∈ k, AtK t
  ss : SS k
  len : k.length ≤ 60
theorem Kn.nil : Kn [] := ⟨fun t ht => (by cases ht), List.Pairwise.nil, by simp⟩
theorem nextL_mem {cs : List Cl} (hw : ∀ c ∈ cs, c.wf) (hc : ∀ c ∈ cs, clauseE c = 0) {k : List Tm} (h : ∀ t ∈ k, AtK t) {x : Tm} : x ∈ nextL cs k ↔ x ∈ derL cs k ∧ x ∉ k := by
  have hd : ∀ a ∈ newL cs k, dle 5 a := fun a ha => may_dle (derL_atk hw hc h a (List.mem_filter.1 ha).1).may
  rw [nextL, srtU_mem hd, newL, List.mem_filter, Bool.not_eq_true', ← Bool.not_eq_true, memK_iff fun t ht => may_dle (h t ht).may]
theorem grow_perm {cs : List Cl} (hw : ∀ c ∈ cs, c.wf) (hc : ∀ c ∈ cs, clauseE c = 0) {k : List Tm} (h : Kn k) : (srtU (k ++ nextL cs k)).Perm (k ++ nextL cs k) ∧ (∀ t ∈ k ++ nextL cs k, AtK t) ∧ (k ++ nextL cs k).Nodup := by
  have ha : ∀ t ∈ k ++ nextL cs k, AtK t := fun t ht => by
    rcases List.mem_append.1 ht with ht | ht
    · exact h.atk t ht
    · exact nextL_atk hw hc h.atk t ht
  have hd : ∀ a ∈ newL cs k, dle 5 a := fun a ha => may_dle (derL_atk hw hc h.atk a (List.mem_filter.1 ha).1).may
  have hn : (k ++ nextL cs k).Nodup := List.nodup_append.2 ⟨h.ss.nodup, (srtU_ss hd).nodup, fun x hx y hy e => by
    subst e; exact ((nextL_mem hw hc h.atk).1 hy).2 hx⟩
  exact ⟨srtU_perm (fun t ht => may_dle (ha t ht).may) hn, ha, hn⟩
theorem Kn.grow {cs : List Cl} (hw : ∀ c ∈ cs, c.wf) (hc : ∀ c ∈ cs, clauseE c = 0) {k : List Tm} (h : Kn k) (hl : k.length + (nextL cs k).length ≤ 60) : Kn (srtU (k ++ nextL cs k)) := by
  obtain ⟨h1, h2, h3⟩ := grow_perm hw hc h
  refine ⟨fun t ht => h2 t (h1.mem_iff.1 ht), srtU_ss fun t ht => may_dle (h2 t ht).may, ?_⟩
  rw [h1.length_eq, List.length_append]; exact hl
theorem nextL_len {cs : List Cl} (hw : ∀ c ∈ cs, c.wf) (hc : ∀ c ∈ cs, clauseE c = 0) {k : List Tm} (h : ∀ t ∈ k, AtK t) : (nextL cs k).length ≤ (derL cs k).length := by
  have hd : ∀ a ∈ newL cs k, dle 5 a := fun a ha => may_dle (derL_atk hw hc h a (List.mem_filter.1 ha).1).may
  refine List.Nodup.length_le_of_subset (srtU_ss hd).nodup fun x hx => ?_
  exact (List.mem_filter.1 ((srtU_mem hd).1 hx)).1
theorem IndexFunc_cl_ok (B : Bool) (ts : List Cl) (es : List (List D)) (hes : es = ts.map clD) (hlen : ts.length ≤ 140737488351232) (g : FuncId) (caps : List AV) (hen : Enters Tryz.prog g) (Os : Nat → List (Nat × Ob)) (p : Nat → Bool) (hO : Thread B caps Os)
    (hstep : ∀ k u, ts[k]? = some u → (∀ j, j < k → p j = false) → AC Tryz.prog g (clA u :: caps) (Os k) (fun r O => r = bv (p k) ∧ O = Os (k + 1))) :
    AC Tryz.prog 192 [.dat false 6 es, .fn g caps] (Os 0) (fun r O => ∃ m n i, m ≤ ts.length ∧ (∀ j, j < m → p j = false) ∧ ((m < ts.length ∧ p m = true ∧ i = (m : Int) ∧ n = m + 1) ∨ (m = ts.length ∧ i = -1 ∧ n = m)) ∧ r = iv i ∧ O = Os n) := by
  have hl : es.length = ts.length := by rw [hes, List.length_map]
  refine AC_intro Tryz.func192 rfl Tryz.ntmps192 (Nat.le_of_ble_eq_true rfl) fun c hL hQ hDD => ?_; refine awp_seq ?_; refine awp_region ?_; refine awps_stp0 rfl rfl (by decide) (stp_move (.inr rfl) rfl) ?_; refine awps_nil ?_; refine thenQ_nil ?_; refine awp_seq ?_; refine awp_seq ?_; refine awp_region ?_; refine awps_stp0 rfl rfl (by decide) (stp_move (.inl rfl) rfl) ?_; refine awps_stp0 rfl rfl (by decide) (stp_len_dat rfl sl_S_api_Clause rfl) ?_
  refine awps_stp0 rfl rfl (by decide) (stp_move (.inl rfl) rfl) ?_; refine awps_nil ?_; refine thenQ_nil ?_; refine awp_block ?_; refine awp_while (ts.length) (fun k => k ≤ ts.length ∧ ∀ j, j < k → p j = false) (fun k => ⟨[(0, .dat false 6 es), (1, .fn g caps), (7, iv es.length), (8, iv (k : Int))], Os k⟩) (⟨by omega, fun j hj => absurd hj (by omega)⟩) ?_ (fun k hk hp => ?_)
  · exact sub_re (SubT.cons (lk_eq rfl (by first | rfl | simp)) (SubT.cons (lk_eq rfl (by first | rfl | simp)) (SubT.cons (lk_eq rfl (by first | rfl | simp)) (SubT.cons (lk_eq rfl (by first | rfl | simp)) (SubT.nil))))) (fun _ _ h => h) (by simp [allT, AV.allL, hO.all]) (hO.self _) (fun l hl => by rw [hO.dom]; exact (hL l).1 hl)
  refine awp_seq ?_; refine awp_region ?_; refine awps_stp0 rfl rfl (by decide) (stp_binI rfl rfl rfl rfl) ?_; refine awps_nil ?_; refine thenQ_nil ?_; refine awp_seq ?_; refine awp_cond rfl (fun c0 => ?_) (fun c0 => ?_)
  · try simp only [↓cqA, cqB] at c0
    obtain ⟨u, hu⟩ := get_of_lt (l := ts) (k := k) (by omega)
    refine awp_skip ?_; refine thenQ_nil ?_; refine awp_seq ?_; refine awp_block ?_; refine awp_seq ?_; refine awp_region ?_; refine awps_stp0 rfl rfl (by decide) (stp_move (.inl rfl) rfl) ?_; refine awps_stp0 rfl rfl (by decide) (stp_move (.inr rfl) rfl) ?_; refine awps_nil ?_; refine thenQ_nil ?_; refine awp_seq ?_; refine awp_region ?_; refine awps_stp0 rfl rfl (by decide) (stp_move (.inl rfl) rfl) ?_; refine awps_stp0 rfl rfl (by decide) (stp_move (.inl rfl) rfl) ?_; refine awps_stp0 rfl rfl (by decide) (stp_move (.inl rfl) rfl) ?_
    refine awps_stp0 rfl rfl (by decide) (stp_indexAddr rfl sl_S_api_Clause rfl rfl (by omega) (by rw [hes, List.getElem?_map]; exact congrArg (Option.map clD) hu)) ?_; refine awps_stp0 rfl rfl (by decide) (stp_load_elpa rfl tf_api_Clause rfl rfl) ?_; refine awps_callP (avs := [_]) B rfl rfl rfl (by decide) hen rfl rfl (hstep k u hu hp.2) (by rw [List.cons_append, List.nil_append]; simp only [AV.cvs, hO.cvs]; rfl) (hO.pass k) (by rintro r O' ⟨_, rfl⟩ l hl; left; rw [hO.dom] at hl ⊢; exact hl) (by rintro hB r O' ⟨rfl, rfl⟩; exact ⟨rfl, hO.q hB _⟩) ?_
    rintro r O' ⟨rfl, rfl⟩
    refine awps_nil ?_; refine thenQ_nil ?_; refine awp_cond rfl (fun c1 => ?_) (fun c1 => ?_)
    · try simp only [↓cqA, cqB] at c1
      refine awp_seq ?_; refine awp_region ?_; refine awps_stp0 rfl rfl (by decide) (stp_move (.inl rfl) rfl) ?_; refine awps_stp0 rfl rfl (by decide) (stp_move (.inr rfl) rfl) ?_; refine awps_nil ?_; refine thenQ_nil ?_; refine awp_ret ?_; refine inQ_ret (thenQ_ret (thenQ_ret (inQ_ret (thenQ_ret (?_)))))
      change retQ _ _ _ _ _ _ _
      refine retO (.inl rfl) (resAs_tmp rfl resAs_nil) SubO.left rfl (hO.self _) (fun l hl => by rw [hO.dom]; exact (hL l).1 hl) ?_
      exact ⟨k, _, _, by omega, hp.2, .inl ⟨by omega, c1, rfl, rfl⟩, rfl, rfl⟩
    try simp only [↓cqA, cqB] at c1
    refine awp_skip ?_; refine inQ_nil ?_; refine thenQ_nil ?_; refine awp_region ?_; refine awps_stp0 rfl rfl (by decide) (stp_add rfl rfl rfl (by omega)) ?_; refine awps_stp0 rfl rfl (by decide) (stp_move (.inl rfl) rfl) ?_; refine awps_nil ?_; refine thenQ_nil ?_; refine ⟨?_, ?_, ?_⟩
    · skip
      omega
    · skip
      refine ⟨by omega, fun j hj => ?_⟩
      by_cases hjk : j < k
      · exact hp.2 j hjk
      · rw [show j = k by omega]; exact c1
    exact sub_re (SubT.cons (lk_eq rfl (by first | rfl | simp)) (SubT.cons (lk_eq rfl (by first | rfl | simp)) (SubT.cons (lk_eq rfl (by first | rfl | simp)) (SubT.cons (lk_eq rfl (by first | rfl | simp)) (SubT.nil))))) (SubO.left) (by simp [allT, AV.allL, hO.all]) (hO.self _) (fun l hl => by rw [hO.dom]; exact (hL l).1 hl)
  try simp only [↓cqA, cqB] at c0
  refine awp_exit ?_; refine thenQ_exit (thenQ_exit (inQ_hit ?_)); refine thenQ_nil ?_; refine awp_seq ?_; refine awp_region ?_; refine awps_stp0 rfl rfl (by decide) (stp_move (.inr rfl) rfl) ?_; refine awps_nil ?_; refine thenQ_nil ?_; refine awp_ret ?_
  change retQ _ _ _ _ _ _ _
  refine retO (.inl rfl) (resAs_tmp rfl resAs_nil) (fun _ _ h => h) rfl (hO.self _) (fun l hl => by rw [hO.dom]; exact (hL l).1 hl) ?_
  exact ⟨k, _, _, by omega, hp.2, .inr ⟨by omega, rfl, rfl⟩, rfl, rfl⟩
theorem ContainsFunc_cl_ok (B : Bool) (ts : List Cl) (es : List (List D)) (hes : es = ts.map clD) (hlen : ts.length ≤ 140737488351232) (g : FuncId) (caps : List AV) (hen : Enters Tryz.prog g) (Os : Nat → List (Nat × Ob)) (p : Nat → Bool) (hO : Thread B caps Os)
    (hstep : ∀ k u, ts[k]? = some u → (∀ j, j < k → p j = false) → AC Tryz.prog g (clA u :: caps) (Os k) (fun r O => r = bv (p k) ∧ O = Os (k + 1))) :
    AC Tryz.prog 131 [.dat false 6 es, .fn g caps] (Os 0) (fun r O => ∃ m n b, m ≤ ts.length ∧ (∀ j, j < m → p j = false) ∧ ((m < ts.length ∧ p m = true ∧ b = true ∧ n = m + 1) ∨ (m = ts.length ∧ b = false ∧ n = m)) ∧ r = bv b ∧ O = Os n) := by
  refine AC_intro Tryz.func131 rfl Tryz.ntmps131 (Nat.le_of_ble_eq_true rfl) fun c hL hQ hDD => ?_; refine awp_seq ?_; refine awp_region ?_; refine awps_stp0 rfl rfl (by decide) (stp_move (.inr rfl) rfl) ?_; refine awps_nil ?_; refine thenQ_nil ?_; refine awp_seq ?_; refine awp_region ?_; refine awps_stp0 rfl rfl (by decide) (stp_move (.inl rfl) rfl) ?_; refine awps_stp0 rfl rfl (by decide) (stp_move (.inl rfl) rfl) ?_
  refine awps_callP (avs := [_, _]) B rfl rfl rfl (by decide) en_slices_IndexFunc_api_Clause_api_Clause rfl rfl (IndexFunc_cl_ok B ts es hes hlen g caps hen Os p hO hstep) (by simp only [List.append_nil, AV.cvs, AV.cv, hO.cvs]; rfl) (hO.pass 0) (by rintro r O' ⟨m, n, i, _, _, _, _, rfl⟩ l hl; left; rw [hO.dom] at hl ⊢; exact hl) (by rintro hB r O' ⟨m, n, i, _, _, _, rfl, rfl⟩; exact ⟨rfl, hO.q hB _⟩) ?_
  rintro r O' ⟨m, n, i, hm, hf, hc, rfl, rfl⟩
  refine awps_stp0 rfl rfl (by decide) (stp_binI rfl rfl rfl rfl) ?_; refine awps_stp0 rfl rfl (by decide) (stp_move (.inr rfl) rfl) ?_; refine awps_nil ?_; refine thenQ_nil ?_; refine awp_ret ?_
  -- leaf 
  change retQ _ _ _ _ _ _ _
  refine retO (.inl rfl) (resAs_tmp rfl resAs_nil) SubO.left rfl (hO.self _) (fun l hl => by rw [hO.dom]; exact (hL l).1 hl) ?_; refine ⟨m, n, _, hm, hf, ?_, rfl, rfl⟩
  rcases hc with ⟨h1, h2, rfl, h3⟩ | ⟨h1, rfl, h3⟩
  · exact .inl ⟨h1, h2, by simp, h3⟩
  · exact .inr ⟨h1, by simp, h3⟩
theorem badC_ok (q : Cl) (hc : q.wf) : PF 132 [clA q] (bv (!(okC q))) := by
  refine AC_intro Tryz.func132 rfl Tryz.ntmps132 (Nat.le_of_ble_eq_true rfl) fun c hL hQ hDD => ?_; refine awp_seq ?_; refine awp_region ?_; refine awps_stp1 rfl rfl (by decide) (stp_box 1 rfl rfl rfl) rfl ?_; refine awps_stp0 rfl rfl (by decide) (stp_move (.inr rfl) rfl) ?_; refine awps_nil ?_; refine thenQ_nil ?_; refine awp_seq ?_; refine awp_region ?_; refine awps_stp0 rfl rfl (by decide) (stp_load_all rfl tf_api_Clause rfl rfl rfl rfl) ?_
  refine awps_call (avs := [_]) true rfl rfl rfl (by decide) en_check_Clause rfl rfl (checkClause_ok q hc) rfl rfl ?_; refine awps_stp0 rfl rfl (by decide) (stp_binI rfl rfl rfl rfl) ?_; refine awps_stp0 rfl rfl (by decide) (stp_move (.inr rfl) rfl) ?_; refine awps_nil ?_; refine thenQ_nil ?_; refine awp_ret ?_
  -- leaf 
  refine ret0 (noL hL) (.inl rfl) (resAs_tmp rfl (resAs_nil)) ?_ ?_
  · rfl
  exact ⟨bool_w (by first | rfl | (rw [okC, ← decide_not]; done) | (simp [okC]; done)), rfl⟩
theorem tmDs_len4 (l : List Tm) : ∀ d ∈ tmDs l, d.length = 4 := fun d hd => by
  rw [tmDs_map] at hd; obtain ⟨t, _, rfl⟩ := List.mem_map.1 hd; rfl
theorem All_ok (cs : List Cl) (hcl : cs.length ≤ 10000000) (hw : ∀ c ∈ cs, c.wf) (hB : ∀ k, Kn k → (derL cs k).length ≤ 10000000) :
    PF 68 [.dat false 6 (clDs cs)] (.tup [.dat false 4 (tmDs (allC cs).1), iv (allC cs).2]) := by
  have hlc := clDs_length cs
  refine AC_leP (Post := fun r O => (((allC cs).1 = [] ∧ r = .tup [.imm (.slice none 0 0), iv (allC cs).2]) ∨ r = .tup [.dat false 4 (tmDs (allC cs).1), iv (allC cs).2]) ∧ O = []) ?_ (fun r O' h => by
    obtain ⟨⟨h1, rfl⟩ | rfl, rfl⟩ := h
    · exact ⟨_, .tup (.cons (.nil (f := false) (k := 4)) (.cons .refl .nil)), by rw [h1]; rfl, rfl⟩
    · exact ⟨_, .refl, rfl, rfl⟩)
  refine AC_intro Tryz.func68 rfl Tryz.ntmps68 (Nat.le_of_ble_eq_true rfl) fun c hL hQ hDD => ?_; refine awp_seq ?_; refine awp_region ?_; refine awps_stp0 rfl rfl (by decide) (stp_move (.inr rfl) rfl) ?_; refine awps_stp0 rfl rfl (by decide) (stp_move (.inr rfl) rfl) ?_; refine awps_nil ?_; refine thenQ_nil ?_; refine awp_seq ?_; refine awp_seq ?_; refine awp_region ?_; refine awps_stp0 rfl rfl (by decide) (stp_move (.inl rfl) rfl) ?_
  refine awps_callP (avs := [_, _]) false rfl rfl rfl (by decide) en_slices_ContainsFunc_api_Clause_api_Clause rfl rfl (ContainsFunc_cl_ok false cs _ rfl (by omega) _ [] en_known_bad (fun _ => []) (fun k => match cs[k]? with | some t => !(okC t) | none => false) ⟨fun k l => rfl, fun k => passO .nil, fun k => rfl, fun k => rfl, fun k => rfl, fun k => rfl, fun h => by cases h⟩ (fun k g hg _ => by rw [hg]; exact badC_ok g (hw g (List.mem_of_getElem? hg)))) (rfl) (passO .nil) (by rintro r O' ⟨m, n, b, _, _, _, _, rfl⟩; exact frB rfl) (by rintro h; cases h) ?_
  rintro r O' ⟨m, n, b, hm1, hf1, hc1, rfl, rfl⟩
  have hb1 := cont_all (l := cs) (p := okC) (fun j x hx => by simp only [hx]) hf1 hc1
  refine awps_nil ?_; refine thenQ_nil ?_; refine awp_cond rfl (fun c0 => ?_) (fun c0 => ?_)
  · try simp only [↓cqA, cqB] at c0
    have hbad : cs.all okC = false := by rw [hb1] at c0; simpa using c0
    refine awp_seq ?_; refine awp_region ?_; refine awps_stp0 rfl rfl (by decide) (stp_move (.inr rfl) rfl) ?_; refine awps_stp0 rfl rfl (by decide) (stp_move (.inr rfl) rfl) ?_; refine awps_nil ?_; refine thenQ_nil ?_; refine awp_ret ?_; refine thenQ_ret (?_)
    -- leaf 0T
    refine ret0 (noL hL) (.inl rfl) (resAs_tmp rfl (resAs_tmp rfl (resAs_nil))) ?_ ?_
    · rfl
    exact ⟨.inl ⟨by rw [allC, hbad]; rfl, by rw [allC, hbad]; rfl⟩, rfl⟩
  try simp only [↓cqA, cqB] at c0
  have hgood : cs.all okC = true := by rw [hb1] at c0; simpa using c0
  have hc : ∀ c ∈ cs, clauseE c = 0 := fun c hm => by have := List.all_eq_true.1 hgood c hm; simpa [okC] using this
  have hall : allC cs = allR cs 61 [] := by rw [allC, if_pos hgood]
  refine awp_skip ?_; refine thenQ_nil ?_; refine awp_seq ?_; refine awp_region ?_; refine awps_stp0 rfl rfl (by decide) (stp_move (.inr rfl) rfl) ?_; refine awps_nil ?_; refine thenQ_nil ?_; refine awp_block ?_; refine awp_whileE (α := List Tm) (61) (fun k a => Kn a ∧ k ≤ a.length ∧ allC cs = allR cs (61 - k) a) (fun k a => ⟨[(0, .dat false 6 (clDs cs)), (4, .row 4)], [(4, .rowd 35 4 false (tmDs a))]⟩) ([]) (⟨Kn.nil, by simp, hall⟩) ?_ (fun k a hk hp => ?_)
  · exact Sub.trans (sub_nil_row (t := 4) (l := 4) 35 4 false rfl rfl) (sub_re (SubT.cons (lk_eq rfl (by first | rfl | simp)) (SubT.cons (lk_eq rfl (by first | rfl | simp)) (SubT.nil))) (SubO.cons (ok_eq rfl (by rfl)) (SubO.nil)) rfl rfl (noL' (noL hL) _))
  obtain ⟨hkn, hka, hkr⟩ := hp
  have hal := tmDs_length a
  have han := tmDs_length (nextL cs a)
  have hk60 := hkn.len
  have hnl := nextL_len hw hc hkn.atk
  have hbd := hB a hkn
  obtain ⟨hgp, hga, hgn⟩ := grow_perm hw hc hkn
  have hru : allR cs (61 - k) a = if (nextL cs a).length = 0 then (a, 0) else if 60 < a.length + (nextL cs a).length then ([], 2) else allR cs (61 - (k + 1)) (srtU (a ++ nextL cs a)) := by
    rw [show 61 - k = (61 - (k + 1)) + 1 by omega]; rfl
  have hap : tmDs a ++ tmDs (nextL cs a) = tmDs (a ++ nextL cs a) := by rw [tmDs_map, tmDs_map, tmDs_map, List.map_append]
  have hapl := tmDs_length (a ++ nextL cs a)
  rw [List.length_append] at hapl
  have hst := AC_rnE 1 4 (stepR_ok cs hcl hw hc a hkn.atk (by omega) hbd)
  refine awp_block ?_; refine awp_seq ?_; refine awp_region ?_; refine awps_stp0 rfl rfl (by decide) (stp_move (.inl rfl) rfl) ?_; refine awps_stp0 rfl rfl (by decide) (stp_move (.inl rfl) rfl) ?_; refine awps_callP (avs := [_, _]) false rfl rfl rfl (by decide) en_known_step rfl rfl (hst) (rfl) (passO (.cons rfl trivial rfl .nil)) (by rintro r O' ⟨_, rfl⟩; exact frB rfl) (by rintro h; cases h) ?_
  rintro r O' ⟨rfl, rfl⟩
  refine awps_stp0 rfl rfl (by decide) (stp_move (.inr rfl) rfl) ?_; refine awps_nil ?_; refine thenQ_nil ?_; refine awp_seq ?_; refine awp_seq ?_; refine awp_region ?_; refine awps_stp0 rfl rfl (by decide) (stp_move (.inl rfl) rfl) ?_; refine awps_stp0 rfl rfl (by decide) (stp_len_dat rfl sl_S_api_Term rfl) ?_; refine awps_stp0 rfl rfl (by decide) (stp_binI rfl rfl rfl rfl) ?_; refine awps_nil ?_; refine thenQ_nil ?_; refine awp_cond rfl (fun c1 => ?_) (fun c1 => ?_)
  · try simp only [↓cqA, cqB] at c1
    refine awp_sub (sub_freeze (l := 4) rfl (by decide) (noL hL _) rfl rfl) ?_; refine awp_seq ?_; refine awp_region ?_; refine awps_stp0 rfl rfl (by decide) (stp_move (.inl rfl) rfl) ?_; refine awps_stp0 rfl rfl (by decide) (stp_move (.inr rfl) rfl) ?_; refine awps_stp0 rfl rfl (by decide) (stp_move (.inr rfl) rfl) ?_; refine awps_nil ?_; refine thenQ_nil ?_; refine awp_ret ?_; refine thenQ_ret (inQ_ret (thenQ_ret (inQ_ret (?_))))
    -- leaf 0F1T
    refine ret0 (noL hL) (.inl rfl) (resAs_tmp rfl (resAs_tmp rfl (resAs_nil))) ?_ ?_
    · rfl
    exact ⟨.inr (by rw [hkr, hru, if_pos (by omega)]; rfl), rfl⟩
  try simp only [↓cqA, cqB] at c1
  refine awp_skip ?_; refine thenQ_nil ?_; refine awp_seq ?_; refine awp_region ?_; refine awps_stp0 rfl rfl (by decide) (stp_move (.inl rfl) rfl) ?_; refine awps_stp0 rfl rfl (by decide) (stp_move (.inl rfl) rfl) ?_; refine awps_append_src 17 ta_S_api_Term rfl rfl (by decide) rfl rfl rfl (src_dat (tmDs_len4 _) rfl) rfl (tmDs_len4 _) (noL hL _) rfl (by omega) rfl ?_; refine awps_stp0 rfl rfl (by decide) (stp_move (.inr rfl) rfl) ?_; refine awps_nil ?_; refine thenQ_nil ?_; refine awp_seq ?_; refine awp_seq ?_
  rw [hap]
  refine awp_region ?_; refine awps_stp0 rfl rfl (by decide) (stp_move (.inl rfl) rfl) ?_; refine awps_stp0 rfl rfl (by decide) (stp_len_rowd rfl sl_S_api_Term rfl rfl) ?_; refine awps_stp0 rfl rfl (by decide) (stp_binI rfl rfl rfl rfl) ?_; refine awps_nil ?_; refine thenQ_nil ?_; refine awp_cond rfl (fun c2 => ?_) (fun c2 => ?_)
  · try simp only [↓cqA, cqB] at c2
    refine awp_seq ?_; refine awp_region ?_; refine awps_stp0 rfl rfl (by decide) (stp_move (.inr rfl) rfl) ?_; refine awps_stp0 rfl rfl (by decide) (stp_move (.inr rfl) rfl) ?_; refine awps_nil ?_; refine thenQ_nil ?_; refine awp_ret ?_; refine thenQ_ret (inQ_ret (thenQ_ret (inQ_ret (?_))))
    -- leaf 0F1F2T
    refine ret0 (noL hL) (.inl rfl) (resAs_tmp rfl (resAs_tmp rfl (resAs_nil))) ?_ ?_
    · rfl
    exact ⟨.inl ⟨by rw [hkr, hru, if_neg (by omega), if_pos (by omega)], by rw [hkr, hru, if_neg (by omega), if_pos (by omega)]; rfl⟩, rfl⟩
  try simp only [↓cqA, cqB] at c2
  refine awp_skip ?_; refine thenQ_nil ?_; refine awp_region ?_; refine awps_stp0 rfl rfl (by decide) (stp_move (.inl rfl) rfl) ?_; refine awps_sort Tryz.srtT (k := 4) (by decide) tf_api_Term (sf := 134) rfl en_term_Compare en_slices_SortFunc_api_Term_api_Term (toD := tmD) (es := a ++ nextL cs a) (cf := cmpT 5) rfl rfl (by decide) rfl rfl rfl (by rw [← tmDs_map]; rfl) (by rw [List.length_append]; omega) (fun x hx y hy => ?_) (fun x _ => by rw [(TP.tm 5).self]; decide) (fun x _ y _ z _ h1 h2 => (TP.tm 5).lt1 h1 (by omega)) (fun x _ y _ z _ h1 h2 h3 => ?_) (fun es' hp2 hs2 => ?_)
  · exact Compare_ok 5 x y (may_dle (hga x hx).may) (hga x hx).wf (hga y hy).wf
  · have h4 := (TP.tm 5).anti x y
    have h5 := (TP.tm 5).anti y z
    have h6 := (TP.tm 5).anti x z
    have h7 := (TP.tm 5).tr z y x (by omega) (by omega)
    omega
  obtain rfl : es' = srtU (a ++ nextL cs a) := perm_ss (fun x hx => may_dle (hga x hx).may) hgn hp2 hs2
  refine awps_nil ?_; refine inQ_nil ?_; refine thenQ_nil ?_; refine ⟨?_, srtU (a ++ nextL cs a), ?_, ?_⟩
  · skip
    omega
  · skip
    refine ⟨hkn.grow hw hc (by omega), ?_, ?_⟩
    · rw [hgp.length_eq, List.length_append]; omega
    · rw [hkr, hru, if_neg (by omega), if_neg (by omega)]
  exact Sub.trans (sub_rename 17 4 (noL hL _) (noL hL _)) (sub_re (SubT.cons (lk_eq rfl (by first | rfl | simp)) (SubT.cons (lk_eq rfl (by first | rfl | simp)) (SubT.nil))) (SubO.cons (ok_eq rfl (by rw [tmDs_map]; rfl)) (SubO.nil)) rfl rfl (noL' (noL hL) _))
end Go.Proofs.YtdecgkhdbfgldaaGreat

set_option linter.unusedVariables false
set_option linter.unusedSimpArgs false
namespace Go.Proofs.YtdecgkhdbfgldaaGreat
open Go
def fitL2 (f : List Bd → Tm → Tm → List Bd × Int) : List (Tm × Tm) → List Bd → List Bd × Int
  | [], l => (l, 0)
  | p :: ps, l => if (f l p.1 p.2).2 ≠ 0 then ([], (f l p.1 p.2).2) else fitL2 f ps (f l p.1 p.2).1
def fitR2 : Nat → List Bd → Tm → Tm → List Bd × Int
  | 0, _, _, _ => ([], 3)
  | d + 1, l, a, b => if a.kind = 1 then (if hasB l a.name = true then (if cmpT 5 (lookT l a.name) b = 0 then (l, 0) else ([], 3)) else (standL l a.name b, standE l a.name b)) else if argsB a b = true then fitL2 (fitR2 d) (a.args.zip b.args) l else ([], 3)
theorem fitL_eq2 {d : Nat} (h : ∀ l a b, fitR d l a b = fitR2 d l a b) : ∀ (ps : List (Tm × Tm)) (l : List Bd), fitL d l ps = fitL2 (fitR2 d) ps l
  | [], l => by rw [fitL, fitL2]
  | p :: ps, l => by rw [fitL, fitL2, h, fitL_eq2 h ps]
theorem fitR_eq2 : ∀ (d : Nat) (l : List Bd) (a b : Tm), fitR d l a b = fitR2 d l a b
  | 0, l, a, b => by rw [fitR, fitR2]
  | d + 1, l, a, b => by rw [fitR, fitR2, fitL_eq2 (fitR_eq2 d)]
def seekL2 (gs : List Gd) (head : Tm) (k : List Tm) : List Tm → List Bd → List Tm
  | [], l => if gs.all (holdsC l) = true then [putT l head] else []
  | a :: bs, l => k.flatMap fun t => if (fitR2 5 l a t).2 = 0 then seekL2 gs head k bs (fitR2 5 l a t).1 else []
theorem seekL_eq2 (gs : List Gd) (head : Tm) (k : List Tm) : ∀ (bs : List Tm) (l : List Bd), seekL gs head k bs l = seekL2 gs head k bs l
  | [], l => rfl
  | a :: bs, l => by
    rw [seekL, seekL2]
    congr 1
    funext t
    rw [fitR_eq2, seekL_eq2 gs head k bs]
def derL2 (cs : List Cl) (k : List Tm) : List Tm := cs.flatMap fun c => seekL2 c.guards c.head k c.body []
theorem derL_eq2 (cs : List Cl) (k : List Tm) : derL cs k = derL2 cs k := by
  rw [derL, derL2]; congr 1; funext c; rw [seekL_eq2]
def newL2 (cs : List Cl) (k : List Tm) : List Tm := (derL2 cs k).filter fun t => !memK k t
def nextL2 (cs : List Cl) (k : List Tm) : List Tm := srtU (newL2 cs k)
theorem nextL_eq2 (cs : List Cl) (k : List Tm) : nextL cs k = nextL2 cs k := by rw [nextL, newL, derL_eq2]; rfl
def allR2 (cs : List Cl) : Nat → List Tm → List Tm × Int
  | 0, _ => ([], 2)
  | n + 1, k => (fun m => if m.length = 0 then (k, 0) else if 60 < k.length + m.length then ([], 2) else allR2 cs n (srtU (k ++ m))) (nextL2 cs k)
theorem allR_eq2 (cs : List Cl) : ∀ (n : Nat) (k : List Tm), allR cs n k = allR2 cs n k
  | 0, k => rfl
  | n + 1, k => by rw [allR, allR2, nextL_eq2, allR_eq2 cs n]
theorem flatMap_le {α β : Type} (f : α → List β) (n : Nat) : ∀ l : List α, (∀ x ∈ l, (f x).length ≤ n) → (l.flatMap f).length ≤ l.length * n
  | [], _ => by simp
  | x :: l, h => by
    have h1 := h x (by simp)
    have h2 := flatMap_le f n l (fun y hy => h y (by simp [hy]))
    rw [List.flatMap_cons, List.length_append, List.length_cons, Nat.add_mul]
    omega
theorem seekL_len (gs : List Gd) (head : Tm) (k : List Tm) : ∀ (bs : List Tm) (l : List Bd), (seekL gs head k bs l).length ≤ k.length ^ bs.length
  | [], l => by
    rw [seekL]; split <;> simp
  | a :: bs, l => by
    rw [seekL, List.length_cons, Nat.pow_succ, Nat.mul_comm]
    refine flatMap_le _ _ k fun t ht => ?_
    split
    · exact seekL_len gs head k bs _
    · simp
theorem derL_small {cs : List Cl} (hb : ∀ c ∈ cs, c.body.length ≤ 2) (hn : cs.length ≤ 200) {k : List Tm} (hk : Kn k) : (derL cs k).length ≤ 10000000 := by
  have : (derL cs k).length ≤ cs.length * 3600 := by
    refine flatMap_le _ _ cs fun q hq => Nat.le_trans (seekL_len q.guards q.head k q.body []) ?_
    have h1 := hb q hq
    have h2 := hk.len
    rcases (show q.body.length = 0 ∨ q.body.length = 1 ∨ q.body.length = 2 by omega) with e | e | e
    · rw [e]; simp
    · rw [e, Nat.pow_one]; omega
    · rw [e, Nat.pow_two]; exact Nat.le_trans (Nat.mul_le_mul h2 h2) (by decide)
  omega
theorem allC_of {cs : List Cl} (h : cs.all okC = true) {r : List Tm × Int} (hr : allR2 cs 61 [] = r) : allC cs = r := by rw [allC, if_pos h, allR_eq2, hr]
end Go.Proofs.YtdecgkhdbfgldaaGreat

set_option linter.unusedVariables false
set_option linter.unusedSimpArgs false
set_option maxRecDepth 8000
namespace Go.Proofs.YtdecgkhdbfgldaaGreat
open Go
theorem num11_ok (x : Int) : PF 69 [iv x] (iv x) := by
  refine AC_intro Tryz.func69 rfl Tryz.ntmps69 (Nat.le_of_ble_eq_true rfl) fun c hL hQ hDD => ?_; refine awp_seq ?_; refine awp_region ?_; refine awps_stp0 rfl rfl (by decide) (stp_move (.inr rfl) rfl) ?_; refine awps_nil ?_; refine thenQ_nil ?_; refine awp_seq ?_; refine awp_region ?_; refine awps_stp0 rfl rfl (by decide) (stp_move (.inl rfl) rfl) ?_; refine awps_stp0 rfl rfl (by decide) (stp_move (.inr rfl) rfl) ?_; refine awps_nil ?_; refine thenQ_nil ?_; refine awp_ret ?_
  -- leaf 
  refine ret0 (noL hL) (.inl rfl) (resAs_tmp rfl (resAs_nil)) ?_ ?_
  · rfl
  exact ⟨rfl, rfl⟩
theorem variable11_raw (s : ByteArray) : PF 67 [sv s] (.agg [iv 1, sv s, iv 0, .imm (.slice none 0 0)]) := by
  refine AC_intro Tryz.func67 rfl Tryz.ntmps67 (Nat.le_of_ble_eq_true rfl) fun c hL hQ hDD => ?_; refine awp_seq ?_; refine awp_region ?_; refine awps_stp1 rfl rfl (by decide) (stp_alloc 2 rfl zv_api_Term rfl) rfl ?_; refine awps_nil ?_; refine thenQ_nil ?_; refine awp_seq ?_; refine awp_region ?_; refine awps_stp0 rfl rfl (by decide) (stp_move (.inl rfl) rfl) ?_
  refine awps_stp0 rfl rfl (by decide) (stp_build rfl zv_api_Term rfl pl_api_Term rfl rfl) ?_; refine awps_store rfl rfl rfl tf_api_Term rfl rfl rfl rfl rfl rfl rfl rfl rfl ?_; refine awps_nil ?_; refine thenQ_nil ?_; refine awp_ret ?_
  -- leaf 
  refine ret0 (noL hL) (.inl rfl) (resAs_cell tf_api_Term rfl rfl rfl (resAs_nil)) ?_ ?_
  · rfl
  exact ⟨rfl, rfl⟩
theorem variable11_ok (s : ByteArray) : PF 67 [sv s] (.agg (lift false (tmD (varT s)))) := AC_leR (var_le false s) (variable11_raw s)
theorem number11_raw (x : Int) : PF 66 [iv x] (.agg [iv 2, sv ⟨#[]⟩, iv x, .imm (.slice none 0 0)]) := by
  refine AC_intro Tryz.func66 rfl Tryz.ntmps66 (Nat.le_of_ble_eq_true rfl) fun c hL hQ hDD => ?_; refine awp_seq ?_; refine awp_region ?_; refine awps_stp1 rfl rfl (by decide) (stp_alloc 2 rfl zv_api_Term rfl) rfl ?_; refine awps_nil ?_; refine thenQ_nil ?_; refine awp_seq ?_; refine awp_region ?_; refine awps_stp0 rfl rfl (by decide) (stp_move (.inl rfl) rfl) ?_
  refine awps_stp0 rfl rfl (by decide) (stp_build rfl zv_api_Term rfl pl_api_Term rfl rfl) ?_; refine awps_store rfl rfl rfl tf_api_Term rfl rfl rfl rfl rfl rfl rfl rfl rfl ?_; refine awps_nil ?_; refine thenQ_nil ?_; refine awp_ret ?_
  -- leaf 
  refine ret0 (noL hL) (.inl rfl) (resAs_cell tf_api_Term rfl rfl rfl (resAs_nil)) ?_ ?_
  · rfl
  exact ⟨rfl, rfl⟩
theorem number11_ok (x : Int) : PF 66 [iv x] (.agg (lift false (tmD (numT x)))) := AC_leR (num_le false x) (number11_raw x)
theorem atom11_ok (s : ByteArray) (ts : List Tm) (hts : ts.length ≤ 1000) : PF 65 [sv s, .dat false 4 (tmDs ts)] (.agg (lift false (tmD (nmT s ts)))) := by
  have hlen := tmDs_length ts
  have h0 : ([] : List (List D)).length = 0 := rfl
  have hd4 : ∀ d ∈ tmDs ts, d.length = 4 := tmDs_len4 ts
  refine AC_intro Tryz.func65 rfl Tryz.ntmps65 (Nat.le_of_ble_eq_true rfl) fun c hL hQ hDD => ?_; refine awp_seq ?_; refine awp_region ?_; refine awps_stp1 rfl rfl (by decide) (stp_alloc 4 rfl zv_api_Term rfl) rfl ?_; refine awps_nil ?_; refine thenQ_nil ?_; refine awp_seq ?_; refine awp_region ?_; refine awps_stp0 rfl rfl (by decide) (stp_move (.inl rfl) rfl) ?_
  refine awps_stp1 rfl rfl (by decide) (stp_buildSlice0 6 false rfl sl_S_api_Term zv_api_Term) rfl ?_; refine awps_stp0 rfl rfl (by decide) (stp_move (.inl rfl) rfl) ?_; refine awps_append_src 8 ta_S_api_Term rfl rfl (by decide) rfl rfl rfl (src_dat hd4 rfl) rfl hd4 (noL hL _) rfl (by omega) rfl ?_; refine awps_sub (sub_freeze (l := 8) rfl (by decide) (noL hL _) rfl rfl) ?_
  refine awps_stp0 rfl rfl (by decide) (stp_build rfl zv_api_Term rfl pl_api_Term rfl rfl) ?_; refine awps_store rfl rfl rfl tf_api_Term rfl rfl rfl rfl rfl rfl rfl rfl rfl ?_; refine awps_nil ?_; refine thenQ_nil ?_; refine awp_ret ?_
  -- leaf 
  refine ret0 (noL hL) (.inl rfl) (resAs_cell tf_api_Term rfl rfl rfl (resAs_nil)) ?_ ?_
  · rfl
  exact ⟨rfl, rfl⟩
def fTm (t : Tm) : Tm := nmT ⟨#[102]⟩ [t]
def gTm (t : Tm) : Tm := nmT ⟨#[103]⟩ [t]
def fct (i : Nat) : Cl := ⟨fTm (numT (i : Int)), [], []⟩
def twc : Cl := ⟨gTm (varT sX), [fTm (varT sX)], []⟩
theorem fTm_w {t : Tm} (h : t.wf) : (fTm t).wf := nmT_w _ _ (by decide) (by simp) (all1 h)
theorem gTm_w {t : Tm} (h : t.wf) : (gTm t).wf := nmT_w _ _ (by decide) (by simp) (all1 h)
theorem wfs1 {a : Tm} (h : a.wf) : Tm.wfs [a] := wfs_of (all1 h)
theorem wfs2 {a b : Tm} (h : a.wf) (k : b.wf) : Tm.wfs [a, b] := wfs_of (all2 h k)
theorem cl_w {q : Tm} {b : List Tm} (h : q.wf) (hb : Tm.wfs b) (hl : b.length ≤ 100) : (Cl.mk q b []).wf := ⟨h, ⟨by simp only [lenOk]; omega, hb⟩, ⟨by simp only [lenOk]; simp, fun g hg => (by cases hg)⟩⟩
theorem fct_w (i : Nat) (h : i ≤ 1000000) : (fct i).wf := cl_w (fTm_w (numT_w _ (by omega))) trivial (by simp)
theorem twc_w : twc.wf := cl_w (gTm_w (varT_w _ (by decide))) (wfs1 (fTm_w (varT_w _ (by decide)))) (by simp [fTm])
def wkC : List Cl := [fct 1, twc]
theorem wkC_all : allC wkC = ([fTm (numT 1), gTm (numT 1)], 0) := allC_of (by decide +kernel) (by kernel_rfl)
theorem head_le (q : Tm) : Le (.agg ((lift false (tmD q)) ++ [.imm (.slice none 0 0), .imm (.slice none 0 0)])) (.agg (lift false (clD ⟨q, [], []⟩))) := .agg (.cons .refl (.cons .refl (.cons .refl (.cons .refl (.cons .nil (.cons .nil .nil))))))
theorem body_le (q : Tm) (b : List Tm) : Le (.agg ((lift false (tmD q)) ++ [.dat false 4 (tmDs b), .imm (.slice none 0 0)])) (.agg (lift false (clD ⟨q, b, []⟩))) := .agg (.cons .refl (.cons .refl (.cons .refl (.cons .refl (.cons .refl (.cons .nil .nil))))))
theorem wakes11_ok : PF 70 [] (bv true) := by
  have key := All_ok wkC (by decide) (fun q hq => by
    simp only [wkC, List.mem_cons, List.not_mem_nil, or_false] at hq
    rcases hq with rfl | rfl
    · exact fct_w 1 (by decide)
    · exact twc_w) (fun k hk => derL_small (fun q hq => by
    simp only [wkC, List.mem_cons, List.not_mem_nil, or_false] at hq
    rcases hq with rfl | rfl <;> simp [fct, twc]) (by decide) hk)
  rw [wkC_all] at key
  refine AC_intro Tryz.func70 rfl Tryz.ntmps70 (Nat.le_of_ble_eq_true rfl) fun c hL hQ hDD => ?_; refine awp_seq ?_; refine awp_region ?_; refine awps_stp0 rfl rfl (by decide) (stp_move (.inr rfl) rfl) ?_; refine awps_nil ?_; refine thenQ_nil ?_; refine awp_seq ?_; refine awp_region ?_; refine awps_stp0 rfl rfl (by decide) (stp_build rfl zv_api_Term rfl pl_api_Term rfl rfl) ?_
  refine awps_sub (sub_le 6 rfl (var_le false sX)) ?_; refine awps_stp1 rfl rfl (by decide) (stp_alloc 1 rfl zv_api_Term rfl) rfl ?_; refine awps_store rfl rfl rfl tf_api_Term rfl rfl rfl rfl rfl rfl rfl rfl rfl ?_; refine awps_nil ?_; refine thenQ_nil ?_; refine awp_seq ?_; refine awp_region ?_; refine awps_stp0 rfl rfl (by decide) (stp_build rfl zv_api_Term rfl pl_api_Term rfl rfl) ?_
  refine awps_sub (sub_le 7 rfl (num_le false 1)) ?_; refine awps_stp1 rfl rfl (by decide) (stp_alloc 2 rfl zv_api_Term rfl) rfl ?_; refine awps_store rfl rfl rfl tf_api_Term rfl rfl rfl rfl rfl rfl rfl rfl rfl ?_; refine awps_nil ?_; refine thenQ_nil ?_; refine awp_seq ?_; refine awp_region ?_; refine awps_stp0 rfl rfl (by decide) (stp_load_all rfl tf_api_Term rfl rfl rfl rfl) ?_
  refine awps_stp0 rfl rfl (by decide) (stp_buildSliceD false rfl sl_S_api_Term zv_api_Term rfl rfl (by decide) (by decide) (by decide) rfl rfl rfl rfl) ?_; refine awps_stp0 rfl rfl (by decide) (stp_build rfl zv_api_Term rfl pl_api_Term rfl rfl) ?_; refine awps_stp1 rfl rfl (by decide) (stp_alloc 3 rfl zv_api_Term rfl) rfl ?_; refine awps_store rfl rfl rfl tf_api_Term rfl rfl rfl rfl rfl rfl rfl rfl rfl ?_; refine awps_nil ?_; refine thenQ_nil ?_; refine awp_seq ?_; refine awp_region ?_; refine awps_stp0 rfl rfl (by decide) (stp_load_all rfl tf_api_Term rfl rfl rfl rfl) ?_
  refine awps_stp0 rfl rfl (by decide) (stp_build rfl zv_api_Clause rfl pl_api_Clause rfl rfl) ?_; refine awps_sub (sub_le 13 rfl (head_le (fTm (numT 1)))) ?_; refine awps_stp0 rfl rfl (by decide) (stp_load_all rfl tf_api_Term rfl rfl rfl rfl) ?_; refine awps_stp0 rfl rfl (by decide) (stp_buildSliceD false rfl sl_S_api_Term zv_api_Term rfl rfl (by decide) (by decide) (by decide) rfl rfl rfl rfl) ?_; refine awps_stp0 rfl rfl (by decide) (stp_build rfl zv_api_Term rfl pl_api_Term rfl rfl) ?_; refine awps_stp0 rfl rfl (by decide) (stp_load_all rfl tf_api_Term rfl rfl rfl rfl) ?_
  refine awps_stp0 rfl rfl (by decide) (stp_buildSliceD false rfl sl_S_api_Term zv_api_Term rfl rfl (by decide) (by decide) (by decide) rfl rfl rfl rfl) ?_; refine awps_stp0 rfl rfl (by decide) (stp_build rfl zv_api_Term rfl pl_api_Term rfl rfl) ?_; refine awps_stp0 rfl rfl (by decide) (stp_buildSliceD false rfl sl_S_api_Term zv_api_Term rfl rfl (by decide) (by decide) (by decide) rfl rfl rfl rfl) ?_; refine awps_stp0 rfl rfl (by decide) (stp_build rfl zv_api_Clause rfl pl_api_Clause rfl rfl) ?_; refine awps_sub (sub_le 21 rfl (body_le (gTm (varT sX)) [fTm (varT sX)])) ?_
  refine awps_stp0 rfl rfl (by decide) (stp_buildSliceD false rfl sl_S_api_Clause zv_api_Clause rfl rfl (by decide) (by decide) (by decide) rfl rfl rfl rfl) ?_; refine awps_call (avs := [_]) false rfl rfl rfl (by decide) en_known_All rfl rfl (key) rfl rfl ?_; refine awps_stp0 rfl rfl (by decide) (stp_move (.inl rfl) rfl) ?_; refine awps_stp0 rfl rfl (by decide) (stp_extract rfl rfl rfl) ?_
  refine awps_stp0 rfl rfl (by decide) (stp_extract rfl rfl rfl) ?_; refine awps_stp0 rfl rfl (by decide) (stp_move (.inr rfl) rfl) ?_; refine awps_stp0 rfl rfl (by decide) (stp_move (.inr rfl) rfl) ?_; refine awps_nil ?_; refine thenQ_nil ?_; refine awp_seq ?_; refine awp_region ?_; refine awps_stp0 rfl rfl (by decide) (stp_move (.inl rfl) rfl) ?_
  refine awps_call (avs := [_]) true rfl rfl rfl (by decide) en_almagestlaw11_num rfl rfl (num11_ok _) rfl rfl ?_; refine awps_stp0 rfl rfl (by decide) (stp_binI rfl rfl rfl rfl) ?_; refine awps_stp0 rfl rfl (by decide) (stp_move (.inl rfl) rfl) ?_; refine awps_split 29 rfl (fun g29 => ?_) (fun g29 => ?_)
  · try simp only [↓cqA, cqB] at g29
    refine awps_g0 rfl rfl rfl (by decide) rfl (by decide) (stp_move (.inl rfl) rfl) ?_; refine awps_g0 rfl rfl rfl (by decide) rfl (by decide) (stp_len_dat rfl sl_S_api_Term rfl) ?_; refine awps_g0 rfl rfl rfl (by decide) rfl (by decide) (stp_binI rfl rfl rfl rfl) ?_; refine awps_stp0 rfl rfl (by decide) (stp_pick rfl rfl rfl) ?_; refine awps_stp0 rfl rfl (by decide) (stp_move (.inr rfl) rfl) ?_; refine awps_nil ?_; refine thenQ_nil ?_; refine awp_ret ?_
    -- leaf g29T
    refine ret0 (noL hL) (.inl rfl) (resAs_tmp rfl (resAs_nil)) ?_ ?_
    · rfl
    first
    | exact ⟨rfl, rfl⟩
    | exact absurd trivial (by assumption)
    | exact absurd rfl (by assumption)
    | trace_state
  try simp only [↓cqA, cqB] at g29
  refine awps_gs rfl rfl rfl rfl (by decide) rfl (by decide) ?_; refine awps_gs rfl rfl rfl rfl (by decide) rfl (by decide) ?_; refine awps_gs rfl rfl rfl rfl (by decide) rfl (by decide) ?_; refine awps_stp0 rfl rfl (by decide) (stp_pick rfl rfl rfl) ?_; refine awps_stp0 rfl rfl (by decide) (stp_move (.inr rfl) rfl) ?_; refine awps_nil ?_; refine thenQ_nil ?_; refine awp_ret ?_
  -- leaf g29F
  refine ret0 (noL hL) (.inl rfl) (resAs_tmp rfl (resAs_nil)) ?_ ?_
  · rfl
  first
  | exact ⟨rfl, rfl⟩
  | exact absurd trivial (by assumption)
  | exact absurd rfl (by assumption)
  | trace_state
end Go.Proofs.YtdecgkhdbfgldaaGreat

set_option linter.unusedVariables false
set_option linter.unusedSimpArgs false
set_option maxRecDepth 8000
namespace Go.Proofs.YtdecgkhdbfgldaaGreat
open Go
theorem bdlDs_snoc (l : List (List Bd)) (b : List Bd) : bdlDs (l ++ [b]) = bdlDs l ++ [[.sl 5 (bdDs b)]] := by simp [bdlDs]
def fitsB (a t : Tm) : Bool := decide ((fitR 5 [] a t).2 = 0)
def ansL (k : List Tm) (a : Tm) : List (List Bd) := (k.filter (fitsB a)).map fun t => (fitR 5 [] a t).1
theorem ansL_len (k : List Tm) (a : Tm) : (ansL k a).length ≤ k.length := by
  rw [ansL, List.length_map]; exact List.length_filter_le _ _
theorem Answers_ok (k : List Tm) (hl : k.length ≤ 60) (hk : ∀ t ∈ k, t.wf ∧ mayT t = true) (a : Tm) (ha : a.wf) (hm : mayT a = true) : PF 139 [.dat false 4 (tmDs k), tmA false a] (.dat false 1 (bdlDs (ansL k a))) := by
  have hlen := tmDs_length k
  refine AC_intro Tryz.func139 rfl Tryz.ntmps139 (Nat.le_of_ble_eq_true rfl) fun c hL hQ hDD => ?_; refine awp_seq ?_; refine awp_region ?_; refine awps_stp1 rfl rfl (by decide) (stp_box 3 rfl rfl rfl) rfl ?_; refine awps_stp0 rfl rfl (by decide) (stp_move (.inr rfl) rfl) ?_; refine awps_nil ?_; refine thenQ_nil ?_; refine awp_seq ?_; refine awp_seq ?_; refine awp_region ?_; refine awps_stp0 rfl rfl (by decide) (stp_move (.inl rfl) rfl) ?_; refine awps_stp0 rfl rfl (by decide) (stp_len_dat rfl sl_S_api_Term rfl) ?_
  refine awps_stp0 rfl rfl (by decide) (stp_move (.inl rfl) rfl) ?_; refine awps_nil ?_; refine thenQ_nil ?_; refine awp_block ?_; refine awp_while (k.length) (fun i => i ≤ k.length) (fun i => ⟨[(3, .ptr 3 0), (4, .row 4), (9, .dat false 4 (tmDs k)), (10, iv (tmDs k).length), (11, iv (i : Int))], [(3, .box (lift false (tmD a))), (4, .rowd 28 1 false (bdlDs (ansL (k.take i) a)))]⟩) (by omega) ?_ (fun i hi hpi => ?_)
  · exact Sub.trans (sub_nil_row (t := 4) (l := 4) 28 1 false rfl rfl) (sub_re (SubT.cons (lk_eq rfl (by first | rfl | simp)) (SubT.cons (lk_eq rfl (by first | rfl | simp)) (SubT.cons (lk_eq rfl (by first | rfl | simp)) (SubT.cons (lk_eq rfl (by first | rfl | simp)) (SubT.cons (lk_eq rfl (by first | rfl | simp)) (SubT.nil)))))) (SubO.cons (ok_eq rfl (by rfl)) (SubO.cons (ok_eq rfl (by rfl)) (SubO.nil))) rfl rfl (noL' (noL hL) _))
  have hl2 : (bdlDs (ansL (k.take i) a)).length ≤ k.length := by rw [bdlDs_length]; have := ansL_len (k.take i) a; simp at this; omega
  refine awp_seq ?_; refine awp_region ?_; refine awps_stp0 rfl rfl (by decide) (stp_binI rfl rfl rfl rfl) ?_; refine awps_nil ?_; refine thenQ_nil ?_; refine awp_seq ?_; refine awp_cond rfl (fun c0 => ?_) (fun c0 => ?_)
  · try simp only [↓cqA, cqB] at c0
    obtain ⟨u, hu⟩ := get_of_lt (l := k) (k := i) (by omega)
    have hum := hk u (List.mem_of_getElem? hu)
    have hfs := filter_snoc (fitsB a) hu
    have hbo := fitR_bok 5 [] a u nil_bok ha hum.1 hum.2
    refine awp_skip ?_; refine thenQ_nil ?_; refine awp_seq ?_; refine awp_block ?_; refine awp_seq ?_; refine awp_region ?_; refine awps_stp0 rfl rfl (by decide) (stp_indexAddr rfl sl_S_api_Term rfl rfl (by omega) (tmDs_get hu)) ?_; refine awps_stp0 rfl rfl (by decide) (stp_load_elpa rfl tf_api_Term rfl rfl) ?_; refine awps_stp1 rfl rfl (by decide) (stp_alloc 6 rfl zv_api_Term rfl) rfl ?_; refine awps_store rfl rfl rfl tf_api_Term rfl rfl rfl rfl rfl rfl rfl rfl rfl ?_; refine awps_nil ?_; refine thenQ_nil ?_; refine awp_seq ?_; refine awp_region ?_
    refine awps_stp0 rfl rfl (by decide) (stp_load_all rfl tf_api_Term rfl rfl rfl rfl) ?_; refine awps_stp0 rfl rfl (by decide) (stp_load_all rfl tf_api_Term rfl rfl rfl rfl) ?_; refine awps_call (avs := [_, _, _]) false rfl rfl rfl (by decide) en_unify_Fit rfl rfl (AC_le (.cons .nil (.cons .refl (.cons .refl .nil))) (Fit_ok 5 [] a u (may_dle hm) (may_shp hm) ha nil_bok hum.1 hum.2)) rfl rfl ?_; refine awps_stp0 rfl rfl (by decide) (stp_move (.inl rfl) rfl) ?_; refine awps_stp0 rfl rfl (by decide) (stp_extract rfl rfl rfl) ?_
    refine awps_stp0 rfl rfl (by decide) (stp_extract rfl rfl rfl) ?_; refine awps_stp0 rfl rfl (by decide) (stp_move (.inr rfl) rfl) ?_; refine awps_stp0 rfl rfl (by decide) (stp_move (.inr rfl) rfl) ?_; refine awps_nil ?_; refine thenQ_nil ?_; refine awp_seq ?_; refine awp_region ?_; refine awps_stp0 rfl rfl (by decide) (stp_move (.inl rfl) rfl) ?_; refine awps_stp0 rfl rfl (by decide) (stp_binI rfl rfl rfl rfl) ?_; refine awps_nil ?_; refine thenQ_nil ?_; refine awp_cond rfl (fun c1 => ?_) (fun c1 => ?_)
    · try simp only [↓cqA, cqB] at c1
      have hfe : bdlDs (ansL (k.take (i + 1)) a) = bdlDs (ansL (k.take i) a) ++ [[.sl 5 (bdDs (fitR 5 [] a u).1)]] := by
        rw [ansL, hfs, if_pos (by simp [fitsB, c1]), List.map_append, ← bdlDs_snoc]; rfl
      refine awp_region ?_; refine awps_stp0 rfl rfl (by decide) (stp_move (.inl rfl) rfl) ?_; refine awps_stp0 rfl rfl (by decide) (stp_move (.inl rfl) rfl) ?_; refine awps_call (avs := [_]) false rfl rfl rfl (by decide) en_bind_Own rfl rfl (bindOwnF_ok (fitR 5 [] a u).1 hbo) rfl rfl ?_; refine awps_stp1 rfl rfl (by decide) (stp_buildSlice 26 rfl sl_S_S_api_Bind zv_S_api_Bind rfl rfl (by decide) (by decide) (by decide) rfl rfl rfl) rfl ?_; refine awps_u rfl rfl (by decide) (stpU_append1 27 ta_S_S_api_Bind rfl rfl rfl rfl rfl rfl rfl rfl (noL hL _) (by omega) rfl) rfl ?_
      refine awps_sub (sub_rename 27 4 (noL hL _) (noL hL _)) ?_; refine awps_stp0 rfl rfl (by decide) (stp_move (.inr rfl) rfl) ?_; refine awps_nil ?_; refine inQ_nil ?_; refine thenQ_nil ?_; refine awp_region ?_; refine awps_stp0 rfl rfl (by decide) (stp_add rfl rfl rfl (by omega)) ?_; refine awps_stp0 rfl rfl (by decide) (stp_move (.inl rfl) rfl) ?_; refine awps_nil ?_; refine thenQ_nil ?_; refine ⟨?_, ?_, ?_⟩
      · skip
        omega
      · skip
        omega
      exact sub_re (SubT.cons (lk_eq rfl (by first | rfl | simp)) (SubT.cons (lk_eq rfl (by first | rfl | simp)) (SubT.cons (lk_eq rfl (by first | rfl | simp)) (SubT.cons (lk_eq rfl (by first | rfl | simp)) (SubT.cons (lk_eq rfl (by first | rfl | simp)) (SubT.nil)))))) (SubO.cons (ok_eq rfl (by rfl)) (SubO.cons (ok_eq rfl (by rw [hfe]; try rfl)) (SubO.nil))) rfl rfl (noL' (noL hL) _)
    try simp only [↓cqA, cqB] at c1
    have hfe : bdlDs (ansL (k.take (i + 1)) a) = bdlDs (ansL (k.take i) a) := by
      rw [ansL, hfs, if_neg (by simp [fitsB, c1]), List.append_nil]; rfl
    refine awp_skip ?_; refine inQ_nil ?_; refine thenQ_nil ?_; refine awp_region ?_; refine awps_stp0 rfl rfl (by decide) (stp_add rfl rfl rfl (by omega)) ?_; refine awps_stp0 rfl rfl (by decide) (stp_move (.inl rfl) rfl) ?_; refine awps_nil ?_; refine thenQ_nil ?_; refine ⟨?_, ?_, ?_⟩
    · skip
      omega
    · skip
      omega
    exact sub_re (SubT.cons (lk_eq rfl (by first | rfl | simp)) (SubT.cons (lk_eq rfl (by first | rfl | simp)) (SubT.cons (lk_eq rfl (by first | rfl | simp)) (SubT.cons (lk_eq rfl (by first | rfl | simp)) (SubT.cons (lk_eq rfl (by first | rfl | simp)) (SubT.nil)))))) (SubO.cons (ok_eq rfl (by rfl)) (SubO.cons (ok_eq rfl (by rw [hfe]; try rfl)) (SubO.nil))) rfl rfl (noL' (noL hL) _)
  try simp only [↓cqA, cqB] at c0
  refine awp_exit ?_; refine thenQ_exit (thenQ_exit (inQ_hit ?_)); refine thenQ_nil ?_; refine awp_seq ?_; refine awp_sub (sub_freeze (l := 4) rfl (by decide) (noL hL _) rfl rfl) ?_; refine awp_region ?_; refine awps_stp0 rfl rfl (by decide) (stp_move (.inl rfl) rfl) ?_; refine awps_stp0 rfl rfl (by decide) (stp_move (.inr rfl) rfl) ?_; refine awps_nil ?_; refine thenQ_nil ?_; refine awp_ret ?_
  -- leaf 0F
  refine ret0 (noL hL) (.inl rfl) (resAs_tmp rfl (resAs_nil)) ?_ ?_
  · rfl
  exact ⟨by rw [List.take_of_length_le (by omega)]; rfl, rfl⟩
def keyOne (b : Bd) : ByteArray := b.name ++ ⟨#[32]⟩ ++ ⟨(keyL 5 b.t).toArray⟩
def keyB (l : List Bd) : ByteArray := l.foldl (fun s b => s ++ keyOne b) ⟨#[]⟩
end Go.Proofs.YtdecgkhdbfgldaaGreat

set_option linter.unusedVariables false
set_option linter.unusedSimpArgs false
namespace Go.Proofs.YtdecgkhdbfgldaaGreat
open Go
theorem allR_kn {cs : List Cl} (hw : ∀ q ∈ cs, q.wf) (hc : ∀ q ∈ cs, clauseE q = 0) : ∀ (n : Nat) (k : List Tm), Kn k → Kn (allR cs n k).1
  | 0, k, h => Kn.nil
  | n + 1, k, h => by
    rw [allR]
    split
    · exact h
    · split
      · exact Kn.nil
      · exact allR_kn hw hc n _ (h.grow hw hc (by omega))
theorem okC_all {cs : List Cl} (h : cs.all okC = true) : ∀ q ∈ cs, clauseE q = 0 := fun q hq => by
  have := List.all_eq_true.1 h q hq; simpa [okC] using this
theorem allC_kn {cs : List Cl} (hw : ∀ q ∈ cs, q.wf) : Kn (allC cs).1 := by
  rw [allC]
  split
  · rename_i h; exact allR_kn hw (okC_all h) 61 [] Kn.nil
  · exact Kn.nil
def fitsB2 (a t : Tm) : Bool := decide ((fitR2 5 [] a t).2 = 0)
def ansL2 (k : List Tm) (a : Tm) : List (List Bd) := (k.filter (fitsB2 a)).map fun t => (fitR2 5 [] a t).1
theorem ansL_eq2 (k : List Tm) (a : Tm) : ansL k a = ansL2 k a := by
  rw [ansL, ansL2]
  have h : fitsB a = fitsB2 a := by funext t; rw [fitsB, fitsB2, fitR_eq2]
  rw [h]
  exact List.map_congr_left fun t _ => by rw [fitR_eq2]
abbrev sZ : ByteArray := ⟨#[90]⟩
abbrev sT : ByteArray := ⟨#[84]⟩
def wy (a b : Tm) : Tm := nmT ⟨#[119, 97, 121]⟩ [a, b]
def stp (a b : Tm) : Tm := nmT ⟨#[115, 116, 101, 112]⟩ [a, b]
def chW : Cl := ⟨wy (varT sX) (varT sY), [stp (varT sX) (varT sY)], []⟩
def chM : Cl := ⟨wy (varT sX) (varT sZ), [wy (varT sX) (varT sY), stp (varT sY) (varT sZ)], []⟩
def chK (i j : Nat) : Cl := ⟨stp (numT (i : Int)) (numT (j : Int)), [], []⟩
def chS (n : Nat) : List Cl := (List.range n).map fun i : Nat => chK i (i + 1)
def chA (n : Nat) : List Cl := [chW, chM] ++ chS (n - 1)
def chB (n : Nat) : List Cl := chA n ++ [chK (n - 1) 0]
def chQ : Tm := wy (numT 0) (varT sT)
theorem wy_w {a b : Tm} (h : a.wf) (k : b.wf) : (wy a b).wf := nmT_w _ _ (by decide) (by simp) (all2 h k)
theorem stp_w {a b : Tm} (h : a.wf) (k : b.wf) : (stp a b).wf := nmT_w _ _ (by decide) (by simp) (all2 h k)
theorem vX_w : (varT sX).wf := varT_w _ (by decide)
theorem vY_w : (varT sY).wf := varT_w _ (by decide)
theorem vZ_w : (varT sZ).wf := varT_w _ (by decide)
theorem chW_w : chW.wf := cl_w (wy_w vX_w vY_w) (wfs1 (stp_w vX_w vY_w)) (by simp)
theorem chM_w : chM.wf := cl_w (wy_w vX_w vZ_w) (wfs2 (wy_w vX_w vY_w) (stp_w vY_w vZ_w)) (by simp)
theorem chK_w (i j : Nat) (hi : i ≤ 1000) (hj : j ≤ 1000) : (chK i j).wf := cl_w (stp_w (numT_w _ (by omega)) (numT_w _ (by omega))) trivial (by simp)
theorem chS_mem {n : Nat} {q : Cl} (h : q ∈ chS n) : ∃ i, i < n ∧ q = chK i (i + 1) := by
  obtain ⟨i, hi, rfl⟩ := List.mem_map.1 h
  exact ⟨i, List.mem_range.1 hi, rfl⟩
theorem chA_mem {n : Nat} {q : Cl} (h : q ∈ chA n) : q = chW ∨ q = chM ∨ ∃ i, i < n - 1 ∧ q = chK i (i + 1) := by
  rcases List.mem_append.1 h with h | h
  · simp only [List.mem_cons, List.not_mem_nil, or_false] at h
    rcases h with rfl | rfl
    · exact .inl rfl
    · exact .inr (.inl rfl)
  · exact .inr (.inr (chS_mem h))
theorem chA_w {n : Nat} (hn : n ≤ 6) : ∀ q ∈ chA n, q.wf ∧ q.body.length ≤ 2 := fun q h => by
  rcases chA_mem h with rfl | rfl | ⟨i, hi, rfl⟩
  · exact ⟨chW_w, by simp [chW]⟩
  · exact ⟨chM_w, by simp [chM]⟩
  · exact ⟨chK_w i (i + 1) (by omega) (by omega), by simp [chK]⟩
theorem chB_w {n : Nat} (hn : n ≤ 6) : ∀ q ∈ chB n, q.wf ∧ q.body.length ≤ 2 := fun q h => by
  rcases List.mem_append.1 h with h | h
  · exact chA_w hn q h
  · rw [List.mem_singleton.1 h]; exact ⟨chK_w _ 0 (by omega) (by omega), by simp [chK]⟩
theorem chA_len {n : Nat} (hn : n ≤ 6) : (chA n).length ≤ 200 := by simp [chA, chS]; omega
theorem chB_len {n : Nat} (hn : n ≤ 6) : (chB n).length ≤ 200 := by simp [chB, chA, chS]; omega
def ansN (l : List Bd) : Option Int := match l with | [b] => some b.t.n | _ => none
def chOK (n : Nat) : Bool := (chA n).all okC && decide ((allR2 (chA n) 61 []).2 = 0) && decide ((allR2 (chA n) 61 []).1.length = n - 1 + n * (n - 1) / 2) && atomsB (allR2 (chA n) 61 []).1 && decide ((ansL2 (allR2 (chA n) 61 []).1 chQ).map ansN = (List.range (n - 1)).map fun i : Nat => some ((i : Int) + 1))
  && (chB n).all okC && decide ((allR2 (chB n) 61 []).2 = 0) && decide ((allR2 (chB n) 61 []).1.length = n + n * n)
set_option maxRecDepth 100000 in
theorem chOK_all {n : Nat} (h2 : 2 ≤ n) (h6 : n ≤ 6) : chOK n = true := by
  rcases (show n = 2 ∨ n = 3 ∨ n = 4 ∨ n = 5 ∨ n = 6 by omega) with rfl | rfl | rfl | rfl | rfl <;> decide +kernel
theorem chain_law {n : Nat} (h2 : 2 ≤ n) (h6 : n ≤ 6) : ∃ K, allC (chA n) = (K, 0) ∧ K.length = n - 1 + n * (n - 1) / 2 ∧ atomsB K = true ∧ Kn K ∧ (ansL K chQ).length = n - 1 ∧ (∀ (i : Nat) (l : List Bd), (ansL K chQ)[i]? = some l → ∃ b, l = [b] ∧ b.t.n = (i : Int) + 1) ∧ ∃ K2, allC (chB n) = (K2, 0) ∧ K2.length = n + n * n := by
  have h := chOK_all h2 h6
  simp only [chOK, Bool.and_eq_true, decide_eq_true_eq] at h
  obtain ⟨⟨⟨⟨⟨⟨⟨a1, a2⟩, a3⟩, a4⟩, a5⟩, b1⟩, b2⟩, b3⟩ := h
  have hA : allC (chA n) = ((allR2 (chA n) 61 []).1, 0) := by rw [allC, if_pos a1, allR_eq2, ← a2]
  have hB : allC (chB n) = ((allR2 (chB n) 61 []).1, 0) := by rw [allC, if_pos b1, allR_eq2, ← b2]
  have hk := allC_kn (fun q hq => (chA_w h6 q hq).1) (cs := chA n)
  rw [hA] at hk
  refine ⟨_, hA, a3, a4, hk, ?_, fun i l hl => ?_, _, hB, b3⟩
  · have := congrArg List.length a5
    rw [ansL_eq2]
    simpa using this
  · rw [ansL_eq2] at hl
    have h3 := congrArg (fun m => m[i]?) a5
    simp only [List.getElem?_map, hl] at h3
    have hi : i < n - 1 := by
      have h4 := congrArg List.length a5
      have h5 := (List.getElem?_eq_some_iff.1 hl).1
      simp at h4; omega
    rw [List.getElem?_range hi] at h3
    simp only [Option.map_some, Option.some.injEq] at h3
    cases l with
    | nil => cases h3
    | cons b t => cases t with
      | nil => simp only [ansN, Option.some.injEq] at h3; exact ⟨b, rfl, h3⟩
      | cons c d => cases h3
end Go.Proofs.YtdecgkhdbfgldaaGreat

set_option linter.unusedVariables false
set_option linter.unusedSimpArgs false
set_option maxRecDepth 8000
namespace Go.Proofs.YtdecgkhdbfgldaaGreat
open Go Go.Maps
theorem stepRR_ok (cs : List Cl) (hcl : cs.length ≤ 10000000) (hw : ∀ c ∈ cs, c.wf) (hc : ∀ c ∈ cs, clauseE c = 0) (k : List Tm) (hk : ∀ t ∈ k, AtK t) (hkl : k.length ≤ 1000) (hB : (derL cs k).length ≤ 10000000) :
    AC Tryz.prog 133 [.row 0, .row 1] [(0, .rowd 106 6 false (clDs cs)), (1, .rowd 35 4 false (tmDs k))] (fun r O => r = .dat false 4 (tmDs (nextL cs k)) ∧ O = [(0, .rowd 106 6 false (clDs cs)), (1, .rowd 35 4 false (tmDs k))]) := by
  have hlc := clDs_length cs
  have hlk := tmDs_length k
  have hcb : ∀ c ∈ cs, clauseB c = true := fun c hm => by
    have h := hc c hm
    cases h2 : clauseB c with
    | true => rfl
    | false => rw [clauseE, if_pos h2] at h; cases h
  have hder := derL_atk hw hc hk
  have hadd := addT_spec (derL cs k) [] (fun u hu => by cases hu) (fun u hu => (hder u hu).may) List.nodup_nil
  have hmay1 : ∀ u ∈ addT [] (derL cs k), mayT u = true := fun u hu => by
    rcases (hadd.2 u).1 hu with h | h
    · cases h
    · exact (hder u h).may
  have hdel := dels_spec k (addT [] (derL cs k)) hmay1 (fun u hu => (hk u hu).may) hadd.1
  have hmay2 : ∀ u ∈ dels (addT [] (derL cs k)) k, mayT u = true := fun u hu => hmay1 u ((hdel.2 u).1 hu).1
  have hal := addT_len (derL cs k) []
  have hdl : (dels (addT [] (derL cs k)) k).length ≤ (addT [] (derL cs k)).length := (hdel.1.length_le_of_subset fun x hx => ((hdel.2 x).1 hx).1)
  have hadk := fun i => addM_kvT ((cs.take i).flatMap fun c => seekL c.guards c.head k c.body []) []
  have hcur : ∀ i, (k.take i).foldl (fun m t => delT t m) (addT [] (derL cs k)) = dels (addT [] (derL cs k)) (k.take i) := fun i => rfl
  have hnewk : ∀ x ∈ dels (addT [] (derL cs k)) k, AtK x := fun x hx => by
    rcases (hadd.2 x).1 ((hdel.2 x).1 hx).1 with h | h
    · cases h
    · exact hder x h
  have hnewd : ∀ x ∈ newL cs k, dle 5 x := fun x hx => may_dle (hder x (List.mem_filter.1 hx).1).may
  simp only [List.length_nil, Nat.zero_add] at hal
  refine AC_intro Tryz.func133 rfl Tryz.ntmps133 (Nat.le_of_ble_eq_true rfl) fun c hL hQ hDD => ?_; refine awp_seq ?_; refine awp_region ?_; refine awps_stp0 rfl rfl (by decide) (stp_move (.inr rfl) rfl) ?_; refine awps_nil ?_; refine thenQ_nil ?_; refine awp_seq ?_; refine awp_region ?_; refine awps_stp1 rfl rfl (by decide) (stp_makeMx 13 rfl (Go.Maps.string_keyed ul_string)) rfl ?_
  refine awps_stp0 rfl rfl (by decide) (stp_move (.inr rfl) rfl) ?_; refine awps_nil ?_; refine thenQ_nil ?_; refine awp_seq ?_; refine awp_seq ?_; refine awp_region ?_; refine awps_stp0 rfl rfl (by decide) (stp_move (.inl rfl) rfl) ?_; refine awps_stp0 rfl rfl (by decide) (stp_len_rowd rfl sl_S_api_Clause rfl rfl) ?_; refine awps_stp0 rfl rfl (by decide) (stp_move (.inl rfl) rfl) ?_; refine awps_nil ?_; refine thenQ_nil ?_; refine awp_block ?_
  refine awp_while (cs.length) (fun i => i ≤ cs.length) (fun i => ⟨[(1, .row 1), (5, .map 13), (14, .row 0), (15, iv (clDs cs).length), (16, iv (i : Int))], [(0, .rowd 106 6 false (clDs cs)), (1, .rowd 35 4 false (tmDs k)), (13, fndK (addM [] ((cs.take i).flatMap fun c => seekL c.guards c.head k c.body [])))]⟩) (by omega) ?_ (fun i hi hpi => ?_)
  · exact sub_re (SubT.cons (lk_eq rfl (by first | rfl | simp)) (SubT.cons (lk_eq rfl (by first | rfl | simp)) (SubT.cons (lk_eq rfl (by first | rfl | simp)) (SubT.cons (lk_eq rfl (by first | rfl | simp)) (SubT.cons (lk_eq rfl (by first | rfl | simp)) (SubT.nil)))))) (SubO.cons (ok_eq rfl (by rfl)) (SubO.cons (ok_eq rfl (by rfl)) (SubO.cons (ok_eq rfl (by rfl)) (SubO.nil)))) rfl rfl (LOz hL rfl)
  refine awp_seq ?_; refine awp_region ?_; refine awps_stp0 rfl rfl (by decide) (stp_binI rfl rfl rfl rfl) ?_; refine awps_nil ?_; refine thenQ_nil ?_; refine awp_seq ?_; refine awp_cond rfl (fun c0 => ?_) (fun c0 => ?_)
  · try simp only [↓cqA, cqB] at c0
    obtain ⟨q, hq⟩ := get_of_lt (l := cs) (k := i) (by omega)
    have hqm := List.mem_of_getElem? hq
    have hft := flatMap_take (fun c : Cl => seekL c.guards c.head k c.body []) hq
    have hle := flatMap_take_le (fun c : Cl => seekL c.guards c.head k c.body []) cs (i + 1)
    rw [hft, List.length_append] at hle
    have hal2 := addM_len ((cs.take i).flatMap fun c => seekL c.guards c.head k c.body []) []
    have hder2 : (derL cs k).length = (cs.flatMap fun c => seekL c.guards c.head k c.body []).length := rfl
    simp only [List.length_nil, Nat.zero_add] at hal2
    have hsk := seekR_ok q (hw q hqm) (hcb q hqm) k hk hkl q.body.length 0 (by omega) [] (addM [] ((cs.take i).flatMap fun c => seekL c.guards c.head k c.body [])) FG_nil (by rw [List.drop_zero]; omega)
    rw [List.drop_zero] at hsk
    have hsk2 := AC_rnE 4 13 (AC_le (.cons .refl (.cons .refl (.cons .refl (.cons .nil (.cons .refl .nil))))) hsk)
    refine awp_skip ?_; refine thenQ_nil ?_; refine awp_seq ?_; refine awp_block ?_; refine awp_seq ?_; refine awp_region ?_; refine awps_stp0 rfl rfl (by decide) (stp_indexAddr_rowd rfl sl_S_api_Clause rfl rfl rfl (by omega) (by omega)) ?_; refine awps_stp0 rfl rfl (by decide) (stp_load_rowdi i 0 rfl tf_api_Clause rfl rfl (by omega) (clDs_get hq) rfl rfl rfl) ?_; refine awps_stp1 rfl rfl (by decide) (stp_alloc 7 rfl zv_api_Clause rfl) rfl ?_; refine awps_store rfl rfl rfl tf_api_Clause rfl rfl rfl rfl rfl rfl rfl rfl rfl ?_; refine awps_nil ?_; refine thenQ_nil ?_; refine awp_region ?_
    refine awps_stp0 rfl rfl (by decide) (stp_load_all rfl tf_api_Clause rfl rfl rfl rfl) ?_; refine awps_stp0 rfl rfl (by decide) (stp_move (.inl rfl) rfl) ?_; refine awps_stp0 rfl rfl (by decide) (stp_move (.inl rfl) rfl) ?_; refine awps_callP (avs := [_, _, _, _, _]) false rfl rfl rfl (by decide) en_known_seek rfl rfl (hsk2) (rfl) (passO (.cons rfl trivial rfl (.cons rfl trivial rfl .nil))) (by rintro r O' ⟨rfl, rfl⟩; exact frB rfl) (by rintro h; cases h) ?_
    rintro r O' ⟨rfl, rfl⟩
    refine awps_nil ?_; refine inQ_nil ?_; refine thenQ_nil ?_; refine awp_region ?_; refine awps_stp0 rfl rfl (by decide) (stp_add rfl rfl rfl (by omega)) ?_; refine awps_stp0 rfl rfl (by decide) (stp_move (.inl rfl) rfl) ?_; refine awps_nil ?_; refine thenQ_nil ?_; refine ⟨?_, ?_, ?_⟩
    · skip
      omega
    · skip
      omega
    exact sub_re (SubT.cons (lk_eq rfl (by first | rfl | simp)) (SubT.cons (lk_eq rfl (by first | rfl | simp)) (SubT.cons (lk_eq rfl (by first | rfl | simp)) (SubT.cons (lk_eq rfl (by first | rfl | simp)) (SubT.cons (lk_eq rfl (by first | rfl | simp)) (SubT.nil)))))) (SubO.cons (ok_eq rfl (by rfl)) (SubO.cons (ok_eq rfl (by rfl)) (SubO.cons (ok_eq rfl (by rw [hft, addM_app]; rfl)) (SubO.nil)))) rfl rfl (LOz hL rfl)
  try simp only [↓cqA, cqB] at c0
  refine awp_exit ?_; refine thenQ_exit (thenQ_exit (inQ_hit ?_)); refine thenQ_nil ?_; refine awp_seq ?_; refine awp_seq ?_
  rw [List.take_of_length_le (l := cs) (i := i) (by omega), show ([] : List (Lit × List D)) = kvT [] from rfl, addM_kvT]
  refine awp_region ?_; refine awps_stp0 rfl rfl (by decide) (stp_move (.inl rfl) rfl) ?_; refine awps_stp0 rfl rfl (by decide) (stp_len_rowd rfl sl_S_api_Term rfl rfl) ?_; refine awps_stp0 rfl rfl (by decide) (stp_move (.inl rfl) rfl) ?_; refine awps_nil ?_; refine thenQ_nil ?_; refine awp_block ?_
  refine awp_while (k.length) (fun j => j ≤ k.length) (fun j => ⟨[(5, .map 13), (25, .row 1), (26, iv (tmDs k).length), (27, iv (j : Int))], [(0, .rowd 106 6 false (clDs cs)), (1, .rowd 35 4 false (tmDs k)), (13, fndK (kvT (dels (addT [] (derL cs k)) (k.take j))))]⟩) (by omega) ?_ (fun j hj hpj => ?_)
  · exact sub_re (SubT.cons (lk_eq rfl (by first | rfl | simp)) (SubT.cons (lk_eq rfl (by first | rfl | simp)) (SubT.cons (lk_eq rfl (by first | rfl | simp)) (SubT.cons (lk_eq rfl (by first | rfl | simp)) (SubT.nil))))) (SubO.cons (ok_eq rfl (by rfl)) (SubO.cons (ok_eq rfl (by rfl)) (SubO.cons (ok_eq rfl (by rfl)) (SubO.nil)))) rfl rfl (LOz hL rfl)
  refine awp_seq ?_; refine awp_region ?_; refine awps_stp0 rfl rfl (by decide) (stp_binI rfl rfl rfl rfl) ?_; refine awps_nil ?_; refine thenQ_nil ?_; refine awp_seq ?_; refine awp_cond rfl (fun c1 => ?_) (fun c1 => ?_)
  · try simp only [↓cqA, cqB] at c1
    obtain ⟨t, ht⟩ := get_of_lt (l := k) (k := j) (by omega)
    have hta := hk t (List.mem_of_getElem? ht)
    refine awp_skip ?_; refine thenQ_nil ?_; refine awp_seq ?_; refine awp_block ?_; refine awp_seq ?_; refine awp_region ?_; refine awps_stp0 rfl rfl (by decide) (stp_indexAddr_rowd rfl sl_S_api_Term rfl rfl rfl (by omega) (by omega)) ?_; refine awps_stp0 rfl rfl (by decide) (stp_load_rowdi j 0 rfl tf_api_Term rfl rfl (by omega) (tmDs_get ht) rfl rfl rfl) ?_; refine awps_stp1 rfl rfl (by decide) (stp_alloc 9 rfl zv_api_Term rfl) rfl ?_; refine awps_store rfl rfl rfl tf_api_Term rfl rfl rfl rfl rfl rfl rfl rfl rfl ?_; refine awps_nil ?_; refine thenQ_nil ?_; refine awp_region ?_
    refine awps_stp0 rfl rfl (by decide) (stp_move (.inl rfl) rfl) ?_; refine awps_stp0 rfl rfl (by decide) (stp_load_all rfl tf_api_Term rfl rfl rfl rfl) ?_; refine awps_call (avs := [_]) true rfl rfl rfl (by decide) en_term_Key rfl rfl (Key_ok 5 t (may_dle hta.may) (may_shp hta.may) hta.wf (by have := ((mayT_iff _).1 hta.may).2.2; omega)) rfl rfl ?_; refine awps_mxDel rfl rfl rfl um_known_found rfl rfl rfl rfl (keyOf_key hta.may) ?_; refine awps_nil ?_; refine inQ_nil ?_; refine thenQ_nil ?_; refine awp_region ?_
    refine awps_stp0 rfl rfl (by decide) (stp_add rfl rfl rfl (by omega)) ?_; refine awps_stp0 rfl rfl (by decide) (stp_move (.inl rfl) rfl) ?_; refine awps_nil ?_; refine thenQ_nil ?_; refine ⟨?_, ?_, ?_⟩
    · skip
      omega
    · skip
      omega
    exact sub_re (SubT.cons (lk_eq rfl (by first | rfl | simp)) (SubT.cons (lk_eq rfl (by first | rfl | simp)) (SubT.cons (lk_eq rfl (by first | rfl | simp)) (SubT.cons (lk_eq rfl (by first | rfl | simp)) (SubT.nil))))) (SubO.cons (ok_eq rfl (by rfl)) (SubO.cons (ok_eq rfl (by rfl)) (SubO.cons (ok_eq rfl (by rw [mvDel_kvT, dels_snoc _ ht])) (SubO.nil)))) rfl rfl (LOz hL rfl)
  try simp only [↓cqA, cqB] at c1
  refine awp_exit ?_; refine thenQ_exit (thenQ_exit (inQ_hit ?_)); refine thenQ_nil ?_; refine awp_seq ?_
  rw [List.take_of_length_le (l := k) (i := j) (by omega)]
  refine awp_region ?_; refine awps_stp0 rfl rfl (by decide) (stp_move (.inr rfl) rfl) ?_; refine awps_nil ?_; refine thenQ_nil ?_; refine awp_seq ?_; refine awp_seq ?_; refine awp_region ?_; refine awps_stp0 rfl rfl (by decide) (stp_move (.inl rfl) rfl) ?_; refine awps_mxRange (l' := 36) rfl rfl rfl (by decide) um_known_found rfl rfl (nLk hL rfl) rfl ?_; refine awps_nil ?_; refine thenQ_nil ?_; refine awp_block ?_
  refine awp_whileE (α := List Tm × List Tm × Option (List D)) ((dels (addT [] (derL cs k)) k).length) (fun r a => (a.2.1 ++ a.1).Perm (dels (addT [] (derL cs k)) k) ∧ a.2.1.length = r) (fun r a => ⟨[(10, .row 10), (36, .ptr 36 0)], [(0, .rowd 106 6 false (clDs cs)), (1, .rowd 35 4 false (tmDs k)), (10, .rowd 35 4 false (a.2.1.map tmD)), (36, wlkK a.1 a.2.2)]⟩) ((dels (addT [] (derL cs k)) k, [], none)) (⟨.refl _, rfl⟩) ?_ (fun r a hr hpr => ?_)
  · exact Sub.trans (sub_nil_row (t := 10) (l := 10) 35 4 false rfl rfl) (sub_re (SubT.cons (lk_eq rfl (by first | rfl | simp)) (SubT.cons (lk_eq rfl (by first | rfl | simp)) (SubT.nil))) (SubO.cons (ok_eq rfl (by rfl)) (SubO.cons (ok_eq rfl (by rfl)) (SubO.cons (ok_eq rfl (by rfl)) (SubO.cons (ok_eq rfl (by rfl)) (SubO.nil))))) rfl rfl (LOz hL rfl))
  have hpl := hpr.1.length_eq
  rw [List.length_append] at hpl
  have hml : (a.2.1.map tmD).length ≤ 10000000 := by rw [List.length_map]; omega
  refine awp_seq ?_; refine awp_region ?_; refine awps_mxNext rfl rfl rfl (by decide) rfl rfl (fun h0 => ?_) (fun pe hpe => ?_)
  · skip
    have hnil : a.1 = [] := by cases h : a.1 with
      | nil => rfl
      | cons x y => rw [h] at h0; cases h0
    have hdone : a.2.1.Perm (dels (addT [] (derL cs k)) k) := by have := hpr.1; rw [hnil, List.append_nil] at this; exact this
    refine awps_stp0 rfl rfl (by decide) (stp_extract rfl rfl rfl) ?_; refine awps_nil ?_; refine thenQ_nil ?_; refine awp_seq ?_; refine awp_condF rfl ?_; refine awp_exit ?_; refine thenQ_exit (thenQ_exit (inQ_hit ?_)); refine thenQ_nil ?_; refine awp_seq ?_; refine awp_region ?_; refine awps_stp0 rfl rfl (by decide) (stp_move (.inl rfl) rfl) ?_
    refine awps_sort Tryz.srtT (k := 4) (by decide) tf_api_Term (sf := 134) rfl en_term_Compare en_slices_SortFunc_api_Term_api_Term (toD := tmD) (es := a.2.1) (cf := cmpT 5) rfl rfl (by decide) rfl rfl rfl rfl (by omega) (fun x hx y hy => ?_) (fun x _ => by rw [(TP.tm 5).self]; decide) (fun x _ y _ z _ h1 h2 => (TP.tm 5).lt1 h1 (by omega)) (fun x _ y _ z _ h1 h2 h3 => ?_) (fun es' hp2 hs2 => ?_)
    · have ax := hnewk x (hdone.mem_iff.1 hx)
      have ay := hnewk y (hdone.mem_iff.1 hy)
      exact Compare_ok 5 x y (may_dle ax.may) ax.wf ay.wf
    · have h4 := (TP.tm 5).anti x y
      have h5 := (TP.tm 5).anti y z
      have h6 := (TP.tm 5).anti x z
      have h7 := (TP.tm 5).tr z y x (by omega) (by omega)
      omega
    obtain rfl : es' = nextL cs k := by
      have e1 := perm_ss (fun x hx => may_dle (hnewk x (hdone.mem_iff.1 hx)).may) (hdone.nodup_iff.2 hdel.1) hp2 hs2
      rw [e1, nextL]
      refine SS.uniq (srtU_ss fun x hx => may_dle (hnewk x (hdone.mem_iff.1 hx)).may) (srtU_ss hnewd) (fun x => ?_)
      rw [srtU_mem (fun x hx => may_dle (hnewk x (hdone.mem_iff.1 hx)).may), srtU_mem hnewd, hdone.mem_iff, hdel.2, hadd.2, newL, List.mem_filter]
      simp only [Bool.not_eq_true']
      constructor
      · rintro ⟨h1 | h1, h2⟩
        · cases h1
        · refine ⟨h1, ?_⟩
          cases hm : memK k x with
          | false => rfl
          | true => exact absurd ((memK_iff (fun u hu => may_dle (hk u hu).may)).1 hm) h2
      · rintro ⟨h1, h2⟩
        refine ⟨.inr h1, fun h3 => ?_⟩
        rw [(memK_iff (fun u hu => may_dle (hk u hu).may)).2 h3] at h2; cases h2
    refine awps_nil ?_; refine thenQ_nil ?_; refine awp_seq ?_; refine awp_sub (sub_freeze (l := 10) rfl (by decide) (nLk hL rfl) rfl rfl) ?_; refine awp_region ?_; refine awps_stp0 rfl rfl (by decide) (stp_move (.inl rfl) rfl) ?_; refine awps_stp0 rfl rfl (by decide) (stp_move (.inr rfl) rfl) ?_; refine awps_nil ?_; refine thenQ_nil ?_; refine awp_ret ?_
    -- leaf 0F1Ff14.0_0
    change retQ _ _ _ _ _ _ _
    refine retO (O' := [(0, _), (1, _)]) (by first | exact .inl rfl | exact .inr rfl) (resAs_tmp rfl resAs_nil) (SubO.cons rfl (SubO.cons rfl SubO.nil)) ?_ ?_ (LOz hL rfl) ?_
    · rfl
    · rfl
    exact ⟨by rw [tmDs_map]; rfl, rfl⟩
  obtain ⟨t, ht, rfl⟩ := List.mem_map.1 hpe
  have hsub : ∀ x ∈ a.1, mayT x = true := fun x hx => hmay2 x (hpr.1.mem_iff.1 (List.mem_append_right _ hx))
  have hnd : a.1.Nodup := ((List.nodup_append.1 (hpr.1.nodup_iff.2 hdel.1)).2.1)
  have hpm := delT_perm (hsub t ht) hsub hnd ht
  have hpo : 0 < a.1.length := List.length_pos_of_mem ht
  have hlt : r < (dels (addT [] (derL cs k)) k).length := by omega
  rw [show (kv t).1 = keyM t from rfl, show (kv t).2 = tmD t from rfl, mvDel_kvT]
  refine awps_stp0 rfl rfl (by decide) (stp_extract rfl rfl rfl) ?_; refine awps_nil ?_; refine thenQ_nil ?_; refine awp_seq ?_; refine awp_condT rfl ?_; refine awp_skip ?_; refine thenQ_nil ?_; refine awp_block ?_; refine awp_seq ?_; refine awp_region ?_; refine awps_stp0 rfl rfl (by decide) (stp_mxEntry rfl rfl rfl) ?_; refine awps_stp0 rfl rfl (by decide) (stp_extract rfl rfl rfl) ?_
  refine awps_stp1 rfl rfl (by decide) (stp_alloc 12 rfl zv_api_Term rfl) rfl ?_; refine awps_store rfl rfl rfl tf_api_Term rfl rfl rfl rfl rfl rfl rfl rfl rfl ?_; refine awps_nil ?_; refine thenQ_nil ?_; refine awp_region ?_; refine awps_stp0 rfl rfl (by decide) (stp_move (.inl rfl) rfl) ?_; refine awps_stp0 rfl rfl (by decide) (stp_load_all rfl tf_api_Term rfl rfl rfl rfl) ?_; refine awps_stp1 rfl rfl (by decide) (stp_buildSlice 43 rfl sl_S_api_Term zv_api_Term rfl rfl (by decide) (by decide) (by decide) rfl rfl rfl) rfl ?_
  refine awps_u rfl rfl (by decide) (stpU_append1 44 ta_S_api_Term rfl rfl rfl rfl rfl rfl rfl rfl (nLk hL rfl) (by omega) rfl) rfl ?_; refine awps_stp0 rfl rfl (by decide) (stp_move (.inr rfl) rfl) ?_; refine awps_nil ?_; refine inQ_nil ?_; refine thenQ_nil ?_; refine ⟨?_, (delT t a.1, a.2.1 ++ [t], some (tmD t)), ?_, ?_⟩
  · skip
    omega
  · skip
    refine ⟨?_, by simp; omega⟩
    have h1 : (a.2.1 ++ [t] ++ delT t a.1).Perm (a.2.1 ++ a.1) := by
      rw [List.append_assoc]
      exact (List.Perm.append_left a.2.1 hpm)
    exact h1.trans hpr.1
  exact Sub.trans (sub_rename 44 10 (nLk hL rfl) (nLk hL rfl)) (sub_re (SubT.cons (lk_eq rfl (by first | rfl | simp)) (SubT.cons (lk_eq rfl (by first | rfl | simp)) (SubT.nil))) (SubO.cons (ok_eq rfl (by rfl)) (SubO.cons (ok_eq rfl (by rfl)) (SubO.cons (ok_eq rfl (by rw [List.map_append]; rfl)) (SubO.cons (ok_eq rfl (by rfl)) (SubO.nil))))) rfl rfl (LOz hL rfl))
theorem IndexClR_ok (cs : List Cl) (hlen : cs.length ≤ 140737488351232) (hw : ∀ q ∈ cs, q.wf) :
    AC Tryz.prog 192 [.row 0, .fn 132 []] [(0, .rowd 106 6 false (clDs cs))] (fun r O => (∃ m i, m ≤ cs.length ∧ (∀ j q, j < m → cs[j]? = some q → okC q = true) ∧ ((m < cs.length ∧ (∃ q, cs[m]? = some q ∧ okC q = false) ∧ i = (m : Int)) ∨ (m = cs.length ∧ i = -1)) ∧ r = iv i) ∧ O = [(0, .rowd 106 6 false (clDs cs))]) := by
  have hl : (clDs cs).length = cs.length := clDs_length cs
  refine AC_intro Tryz.func192 rfl Tryz.ntmps192 (Nat.le_of_ble_eq_true rfl) fun c hL hQ hDD => ?_; refine awp_seq ?_; refine awp_region ?_; refine awps_stp0 rfl rfl (by decide) (stp_move (.inr rfl) rfl) ?_; refine awps_nil ?_; refine thenQ_nil ?_; refine awp_seq ?_; refine awp_seq ?_; refine awp_region ?_; refine awps_stp0 rfl rfl (by decide) (stp_move (.inl rfl) rfl) ?_; refine awps_stp0 rfl rfl (by decide) (stp_len_rowd rfl sl_S_api_Clause rfl rfl) ?_; refine awps_stp0 rfl rfl (by decide) (stp_move (.inl rfl) rfl) ?_; refine awps_nil ?_; refine thenQ_nil ?_; refine awp_block ?_
  refine awp_while (cs.length) (fun k => k ≤ cs.length ∧ ∀ j q, j < k → cs[j]? = some q → okC q = true) (fun k => ⟨[(0, .row 0), (1, .fn 132 []), (7, iv (clDs cs).length), (8, iv (k : Int))], [(0, .rowd 106 6 false (clDs cs))]⟩) (⟨by omega, fun j q hj => absurd hj (by omega)⟩) ?_ (fun k hk hp => ?_)
  · exact sub_re (SubT.cons (lk_eq rfl (by first | rfl | simp)) (SubT.cons (lk_eq rfl (by first | rfl | simp)) (SubT.cons (lk_eq rfl (by first | rfl | simp)) (SubT.cons (lk_eq rfl (by first | rfl | simp)) (SubT.nil))))) (SubO.cons (ok_eq rfl (by rfl)) (SubO.nil)) rfl rfl (LOz hL rfl)
  refine awp_seq ?_; refine awp_region ?_; refine awps_stp0 rfl rfl (by decide) (stp_binI rfl rfl rfl rfl) ?_; refine awps_nil ?_; refine thenQ_nil ?_; refine awp_seq ?_; refine awp_cond rfl (fun c0 => ?_) (fun c0 => ?_)
  · try simp only [↓cqA, cqB] at c0
    obtain ⟨u, hu⟩ := get_of_lt (l := cs) (k := k) (by omega)
    refine awp_skip ?_; refine thenQ_nil ?_; refine awp_seq ?_; refine awp_block ?_; refine awp_seq ?_; refine awp_region ?_; refine awps_stp0 rfl rfl (by decide) (stp_move (.inl rfl) rfl) ?_; refine awps_stp0 rfl rfl (by decide) (stp_move (.inr rfl) rfl) ?_; refine awps_nil ?_; refine thenQ_nil ?_; refine awp_seq ?_; refine awp_region ?_; refine awps_stp0 rfl rfl (by decide) (stp_move (.inl rfl) rfl) ?_; refine awps_stp0 rfl rfl (by decide) (stp_move (.inl rfl) rfl) ?_; refine awps_stp0 rfl rfl (by decide) (stp_move (.inl rfl) rfl) ?_
    refine awps_stp0 rfl rfl (by decide) (stp_indexAddr_rowd rfl sl_S_api_Clause rfl rfl rfl (by omega) (by omega)) ?_; refine awps_stp0 rfl rfl (by decide) (stp_load_rowdi k 0 rfl tf_api_Clause rfl rfl (by omega) (clDs_get hu) rfl rfl rfl) ?_; refine awps_call (avs := [_]) false rfl rfl rfl (by decide) en_known_bad rfl rfl (badC_ok u (hw u (List.mem_of_getElem? hu))) rfl rfl ?_; refine awps_nil ?_; refine thenQ_nil ?_; refine awp_cond rfl (fun c1 => ?_) (fun c1 => ?_)
    · try simp only [↓cqA, cqB] at c1
      refine awp_seq ?_; refine awp_region ?_; refine awps_stp0 rfl rfl (by decide) (stp_move (.inl rfl) rfl) ?_; refine awps_stp0 rfl rfl (by decide) (stp_move (.inr rfl) rfl) ?_; refine awps_nil ?_; refine thenQ_nil ?_; refine awp_ret ?_; refine inQ_ret (thenQ_ret (thenQ_ret (inQ_ret (thenQ_ret (?_)))))
      change retQ _ _ _ _ _ _ _
      refine retO (O' := [(0, _)]) (.inl rfl) (resAs_tmp rfl resAs_nil) (SubO.cons rfl SubO.nil) ?_ ?_ (LOz hL rfl) ?_
      · rfl
      · rfl
      exact ⟨⟨k, _, by omega, hp.2, .inl ⟨by omega, ⟨u, hu, by simpa using c1⟩, rfl⟩, rfl⟩, rfl⟩
    try simp only [↓cqA, cqB] at c1
    refine awp_skip ?_; refine inQ_nil ?_; refine thenQ_nil ?_; refine awp_region ?_; refine awps_stp0 rfl rfl (by decide) (stp_add rfl rfl rfl (by omega)) ?_; refine awps_stp0 rfl rfl (by decide) (stp_move (.inl rfl) rfl) ?_; refine awps_nil ?_; refine thenQ_nil ?_; refine ⟨?_, ?_, ?_⟩
    · skip
      omega
    · skip
      refine ⟨by omega, fun j q hj hq => ?_⟩
      by_cases hjk : j < k
      · exact hp.2 j q hjk hq
      · rw [show j = k by omega, hu] at hq
        cases hq
        simpa using c1
    exact sub_re (SubT.cons (lk_eq rfl (by first | rfl | simp)) (SubT.cons (lk_eq rfl (by first | rfl | simp)) (SubT.cons (lk_eq rfl (by first | rfl | simp)) (SubT.cons (lk_eq rfl (by first | rfl | simp)) (SubT.nil))))) (SubO.cons (ok_eq rfl (by rfl)) (SubO.nil)) rfl rfl (LOz hL rfl)
  try simp only [↓cqA, cqB] at c0
  refine awp_exit ?_; refine thenQ_exit (thenQ_exit (inQ_hit ?_)); refine thenQ_nil ?_; refine awp_seq ?_; refine awp_region ?_; refine awps_stp0 rfl rfl (by decide) (stp_move (.inr rfl) rfl) ?_; refine awps_nil ?_; refine thenQ_nil ?_; refine awp_ret ?_
  change retQ _ _ _ _ _ _ _
  refine retO (O' := [(0, _)]) (.inl rfl) (resAs_tmp rfl resAs_nil) (SubO.cons rfl SubO.nil) ?_ ?_ (LOz hL rfl) ?_
  · rfl
  · rfl
  exact ⟨⟨k, _, by omega, hp.2, .inr ⟨by omega, rfl⟩, rfl⟩, rfl⟩
theorem ContainsClR_ok (cs : List Cl) (hlen : cs.length ≤ 140737488351232) (hw : ∀ q ∈ cs, q.wf) :
    AC Tryz.prog 131 [.row 0, .fn 132 []] [(0, .rowd 106 6 false (clDs cs))] (fun r O => r = bv (!(cs.all okC)) ∧ O = [(0, .rowd 106 6 false (clDs cs))]) := by
  refine AC_intro Tryz.func131 rfl Tryz.ntmps131 (Nat.le_of_ble_eq_true rfl) fun c hL hQ hDD => ?_; refine awp_seq ?_; refine awp_region ?_; refine awps_stp0 rfl rfl (by decide) (stp_move (.inr rfl) rfl) ?_; refine awps_nil ?_; refine thenQ_nil ?_; refine awp_seq ?_; refine awp_region ?_; refine awps_stp0 rfl rfl (by decide) (stp_move (.inl rfl) rfl) ?_
  refine awps_stp0 rfl rfl (by decide) (stp_move (.inl rfl) rfl) ?_; refine awps_callP (avs := [_, _]) false rfl rfl rfl (by decide) en_slices_IndexFunc_api_Clause_api_Clause rfl rfl (IndexClR_ok cs hlen hw) (rfl) (passO (.cons rfl trivial rfl .nil)) (by rintro r O' ⟨_, rfl⟩; exact frB rfl) (by rintro h; cases h) ?_
  rintro r O' ⟨⟨m, i, hm, hf, hc, rfl⟩, rfl⟩
  refine awps_stp0 rfl rfl (by decide) (stp_binI rfl rfl rfl rfl) ?_; refine awps_stp0 rfl rfl (by decide) (stp_move (.inr rfl) rfl) ?_; refine awps_nil ?_; refine thenQ_nil ?_; refine awp_ret ?_
  -- leaf 
  change retQ _ _ _ _ _ _ _
  refine retO (O' := [(0, _)]) (.inl rfl) (resAs_tmp rfl resAs_nil) (SubO.cons rfl SubO.nil) ?_ ?_ (LOz hL rfl) ?_
  · rfl
  · rfl
  refine ⟨bool_w ?_, rfl⟩
  rcases hc with ⟨h1, ⟨q, hq, h2⟩, rfl⟩ | ⟨h1, rfl⟩
  · have : cs.all okC = false := List.all_eq_false.2 ⟨q, List.mem_of_getElem? hq, by simp [h2]⟩
    rw [this]; simp
  · have : cs.all okC = true := List.all_eq_true.2 fun q hq => by
      obtain ⟨j, hj⟩ := List.getElem?_of_mem hq
      exact hf j q (by rw [h1]; exact (List.getElem?_eq_some_iff.1 hj).1) hj
    rw [this]; simp
theorem AllR_ok (cs : List Cl) (hcl : cs.length ≤ 10000000) (hw : ∀ c ∈ cs, c.wf) (hB : ∀ k, Kn k → (derL cs k).length ≤ 10000000) :
    AC Tryz.prog 68 [.row 0] [(0, .rowd 106 6 false (clDs cs))] (fun r O => r = .tup [.dat false 4 (tmDs (allC cs).1), iv (allC cs).2] ∧ O = [(0, .rowd 106 6 false (clDs cs))]) := by
  have hlc := clDs_length cs
  refine AC_leP (Post := fun r O => (((allC cs).1 = [] ∧ r = .tup [.imm (.slice none 0 0), iv (allC cs).2]) ∨ r = .tup [.dat false 4 (tmDs (allC cs).1), iv (allC cs).2]) ∧ O = [(0, .rowd 106 6 false (clDs cs))]) ?_ (fun r O' h => by
    obtain ⟨⟨h1, rfl⟩ | rfl, rfl⟩ := h
    · exact ⟨_, .tup (.cons (.nil (f := false) (k := 4)) (.cons .refl .nil)), by rw [h1]; rfl, rfl⟩
    · exact ⟨_, .refl, rfl, rfl⟩)
  refine AC_intro Tryz.func68 rfl Tryz.ntmps68 (Nat.le_of_ble_eq_true rfl) fun c hL hQ hDD => ?_; refine awp_seq ?_; refine awp_region ?_; refine awps_stp0 rfl rfl (by decide) (stp_move (.inr rfl) rfl) ?_; refine awps_stp0 rfl rfl (by decide) (stp_move (.inr rfl) rfl) ?_; refine awps_nil ?_; refine thenQ_nil ?_; refine awp_seq ?_; refine awp_seq ?_; refine awp_region ?_
  refine awps_stp0 rfl rfl (by decide) (stp_move (.inl rfl) rfl) ?_; refine awps_callP (avs := [_, _]) false rfl rfl rfl (by decide) en_slices_ContainsFunc_api_Clause_api_Clause rfl rfl (ContainsClR_ok cs (by omega) hw) (rfl) (passO (.cons rfl trivial rfl .nil)) (by rintro r O' ⟨_, rfl⟩; exact frB rfl) (by rintro h; cases h) ?_
  rintro r O' ⟨rfl, rfl⟩
  obtain ⟨b, hb1⟩ : ∃ b, b = !(cs.all okC) := ⟨_, rfl⟩
  rw [← hb1]
  refine awps_nil ?_; refine thenQ_nil ?_; refine awp_cond rfl (fun c0 => ?_) (fun c0 => ?_)
  · try simp only [↓cqA, cqB] at c0
    have hbad : cs.all okC = false := by rw [hb1] at c0; simpa using c0
    refine awp_seq ?_; refine awp_region ?_; refine awps_stp0 rfl rfl (by decide) (stp_move (.inr rfl) rfl) ?_; refine awps_stp0 rfl rfl (by decide) (stp_move (.inr rfl) rfl) ?_; refine awps_nil ?_; refine thenQ_nil ?_; refine awp_ret ?_; refine thenQ_ret (?_)
    change retQ _ _ _ _ _ _ _
    refine retO (O' := [(0, _)]) (by first | exact .inl rfl | exact .inr rfl) (resAs_tmp rfl (resAs_tmp rfl resAs_nil)) (SubO.cons rfl SubO.nil) ?_ ?_ (LOz hL rfl) ?_
    · rfl
    · rfl
    exact ⟨.inl ⟨by rw [allC, hbad]; rfl, by rw [allC, hbad]; rfl⟩, rfl⟩
  try simp only [↓cqA, cqB] at c0
  have hgood : cs.all okC = true := by rw [hb1] at c0; simpa using c0
  have hc : ∀ c ∈ cs, clauseE c = 0 := fun c hm => by have := List.all_eq_true.1 hgood c hm; simpa [okC] using this
  have hall : allC cs = allR cs 61 [] := by rw [allC, if_pos hgood]
  refine awp_skip ?_; refine thenQ_nil ?_; refine awp_seq ?_; refine awp_region ?_; refine awps_stp0 rfl rfl (by decide) (stp_move (.inr rfl) rfl) ?_; refine awps_nil ?_; refine thenQ_nil ?_; refine awp_block ?_; refine awp_whileE (α := List Tm) (61) (fun k a => Kn a ∧ k ≤ a.length ∧ allC cs = allR cs (61 - k) a) (fun k a => ⟨[(0, .row 0), (4, .row 4)], [(0, .rowd 106 6 false (clDs cs)), (4, .rowd 35 4 false (tmDs a))]⟩) ([]) (⟨Kn.nil, by simp, hall⟩) ?_ (fun k a hk hp => ?_)
  · exact Sub.trans (sub_nil_row (t := 4) (l := 4) 35 4 false rfl rfl) (sub_re (SubT.cons (lk_eq rfl (by first | rfl | simp)) (SubT.cons (lk_eq rfl (by first | rfl | simp)) (SubT.nil))) (SubO.cons (ok_eq rfl (by rfl)) (SubO.cons (ok_eq rfl (by rfl)) (SubO.nil))) rfl rfl (LOz hL rfl))
  obtain ⟨hkn, hka, hkr⟩ := hp
  have hal := tmDs_length a
  have han := tmDs_length (nextL cs a)
  have hk60 := hkn.len
  have hnl := nextL_len hw hc hkn.atk
  have hbd := hB a hkn
  obtain ⟨hgp, hga, hgn⟩ := grow_perm hw hc hkn
  have hru : allR cs (61 - k) a = if (nextL cs a).length = 0 then (a, 0) else if 60 < a.length + (nextL cs a).length then ([], 2) else allR cs (61 - (k + 1)) (srtU (a ++ nextL cs a)) := by
    rw [show 61 - k = (61 - (k + 1)) + 1 by omega]; rfl
  have hap : tmDs a ++ tmDs (nextL cs a) = tmDs (a ++ nextL cs a) := by rw [tmDs_map, tmDs_map, tmDs_map, List.map_append]
  have hapl := tmDs_length (a ++ nextL cs a)
  rw [List.length_append] at hapl
  have hst := AC_rnE 1 4 (stepRR_ok cs hcl hw hc a hkn.atk (by omega) hbd)
  refine awp_block ?_; refine awp_seq ?_; refine awp_region ?_; refine awps_stp0 rfl rfl (by decide) (stp_move (.inl rfl) rfl) ?_; refine awps_stp0 rfl rfl (by decide) (stp_move (.inl rfl) rfl) ?_; refine awps_callP (avs := [_, _]) false rfl rfl rfl (by decide) en_known_step rfl rfl (hst) (rfl) (passO (.cons rfl trivial rfl (.cons rfl trivial rfl .nil))) (by rintro r O' ⟨_, rfl⟩; exact frB rfl) (by rintro h; cases h) ?_
  rintro r O' ⟨rfl, rfl⟩
  refine awps_stp0 rfl rfl (by decide) (stp_move (.inr rfl) rfl) ?_; refine awps_nil ?_; refine thenQ_nil ?_; refine awp_seq ?_; refine awp_seq ?_; refine awp_region ?_; refine awps_stp0 rfl rfl (by decide) (stp_move (.inl rfl) rfl) ?_; refine awps_stp0 rfl rfl (by decide) (stp_len_dat rfl sl_S_api_Term rfl) ?_; refine awps_stp0 rfl rfl (by decide) (stp_binI rfl rfl rfl rfl) ?_; refine awps_nil ?_; refine thenQ_nil ?_; refine awp_cond rfl (fun c1 => ?_) (fun c1 => ?_)
  · try simp only [↓cqA, cqB] at c1
    refine awp_sub (sub_freeze (l := 4) rfl (by decide) (nLk hL rfl) rfl rfl) ?_; refine awp_seq ?_; refine awp_region ?_; refine awps_stp0 rfl rfl (by decide) (stp_move (.inl rfl) rfl) ?_; refine awps_stp0 rfl rfl (by decide) (stp_move (.inr rfl) rfl) ?_; refine awps_stp0 rfl rfl (by decide) (stp_move (.inr rfl) rfl) ?_; refine awps_nil ?_; refine thenQ_nil ?_; refine awp_ret ?_; refine thenQ_ret (inQ_ret (thenQ_ret (inQ_ret (?_))))
    change retQ _ _ _ _ _ _ _
    refine retO (O' := [(0, _)]) (by first | exact .inl rfl | exact .inr rfl) (resAs_tmp rfl (resAs_tmp rfl resAs_nil)) (SubO.cons rfl SubO.nil) ?_ ?_ (LOz hL rfl) ?_
    · rfl
    · rfl
    exact ⟨.inr (by rw [hkr, hru, if_pos (by omega)]; rfl), rfl⟩
  try simp only [↓cqA, cqB] at c1
  refine awp_skip ?_; refine thenQ_nil ?_; refine awp_seq ?_; refine awp_region ?_; refine awps_stp0 rfl rfl (by decide) (stp_move (.inl rfl) rfl) ?_; refine awps_stp0 rfl rfl (by decide) (stp_move (.inl rfl) rfl) ?_; refine awps_append_src 17 ta_S_api_Term rfl rfl (by decide) rfl rfl rfl (src_dat (tmDs_len4 _) rfl) rfl (tmDs_len4 _) (nLk hL rfl) rfl (by omega) rfl ?_; refine awps_stp0 rfl rfl (by decide) (stp_move (.inr rfl) rfl) ?_; refine awps_nil ?_; refine thenQ_nil ?_; refine awp_seq ?_; refine awp_seq ?_
  rw [hap]
  refine awp_region ?_; refine awps_stp0 rfl rfl (by decide) (stp_move (.inl rfl) rfl) ?_; refine awps_stp0 rfl rfl (by decide) (stp_len_rowd rfl sl_S_api_Term rfl rfl) ?_; refine awps_stp0 rfl rfl (by decide) (stp_binI rfl rfl rfl rfl) ?_; refine awps_nil ?_; refine thenQ_nil ?_; refine awp_cond rfl (fun c2 => ?_) (fun c2 => ?_)
  · try simp only [↓cqA, cqB] at c2
    refine awp_seq ?_; refine awp_region ?_; refine awps_stp0 rfl rfl (by decide) (stp_move (.inr rfl) rfl) ?_; refine awps_stp0 rfl rfl (by decide) (stp_move (.inr rfl) rfl) ?_; refine awps_nil ?_; refine thenQ_nil ?_; refine awp_ret ?_; refine thenQ_ret (inQ_ret (thenQ_ret (inQ_ret (?_))))
    change retQ _ _ _ _ _ _ _
    refine retO (O' := [(0, _)]) (by first | exact .inl rfl | exact .inr rfl) (resAs_tmp rfl (resAs_tmp rfl resAs_nil)) (SubO.cons rfl SubO.nil) ?_ ?_ (LOz hL rfl) ?_
    · rfl
    · rfl
    exact ⟨.inl ⟨by rw [hkr, hru, if_neg (by omega), if_pos (by omega)], by rw [hkr, hru, if_neg (by omega), if_pos (by omega)]; rfl⟩, rfl⟩
  try simp only [↓cqA, cqB] at c2
  refine awp_skip ?_; refine thenQ_nil ?_; refine awp_region ?_; refine awps_stp0 rfl rfl (by decide) (stp_move (.inl rfl) rfl) ?_; refine awps_sort Tryz.srtT (k := 4) (by decide) tf_api_Term (sf := 134) rfl en_term_Compare en_slices_SortFunc_api_Term_api_Term (toD := tmD) (es := a ++ nextL cs a) (cf := cmpT 5) rfl rfl (by decide) rfl rfl rfl (by rw [← tmDs_map]; rfl) (by rw [List.length_append]; omega) (fun x hx y hy => ?_) (fun x _ => by rw [(TP.tm 5).self]; decide) (fun x _ y _ z _ h1 h2 => (TP.tm 5).lt1 h1 (by omega)) (fun x _ y _ z _ h1 h2 h3 => ?_) (fun es' hp2 hs2 => ?_)
  · exact Compare_ok 5 x y (may_dle (hga x hx).may) (hga x hx).wf (hga y hy).wf
  · have h4 := (TP.tm 5).anti x y
    have h5 := (TP.tm 5).anti y z
    have h6 := (TP.tm 5).anti x z
    have h7 := (TP.tm 5).tr z y x (by omega) (by omega)
    omega
  obtain rfl : es' = srtU (a ++ nextL cs a) := perm_ss (fun x hx => may_dle (hga x hx).may) hgn hp2 hs2
  refine awps_nil ?_; refine inQ_nil ?_; refine thenQ_nil ?_; refine ⟨?_, srtU (a ++ nextL cs a), ?_, ?_⟩
  · skip
    omega
  · skip
    refine ⟨hkn.grow hw hc (by omega), ?_, ?_⟩
    · rw [hgp.length_eq, List.length_append]; omega
    · rw [hkr, hru, if_neg (by omega), if_neg (by omega)]
  exact Sub.trans (sub_rename 17 4 (nLk hL rfl) (nLk hL rfl)) (sub_re (SubT.cons (lk_eq rfl (by first | rfl | simp)) (SubT.cons (lk_eq rfl (by first | rfl | simp)) (SubT.nil))) (SubO.cons (ok_eq rfl (by rfl)) (SubO.cons (ok_eq rfl (by rw [tmDs_map]; rfl)) (SubO.nil))) rfl rfl (LOz hL rfl))
end Go.Proofs.YtdecgkhdbfgldaaGreat

set_option linter.unusedVariables false
set_option linter.unusedSimpArgs false
set_option maxRecDepth 8000
namespace Go.Proofs.YtdecgkhdbfgldaaGreat
open Go
theorem clDs_app (a b : List Cl) : clDs (a ++ b) = clDs a ++ clDs b := by simp [clDs]
end Go.Proofs.YtdecgkhdbfgldaaGreat
