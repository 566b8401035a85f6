/- Part 12 of the proof: Hg, Hh, Hi, Ha, Gk. -/
import Derived.Test.YtdecgkhdbfgldaaGreatB11
set_option linter.unusedVariables false
set_option linter.unusedSimpArgs false
set_option maxRecDepth 8000
namespace Go.Proofs.YtdecgkhdbfgldaaGreat
open Go
theorem filter_snoc {α : Type} (p : α → Bool) {l : List α} {k : Nat} {u : α} (hu : l[k]? = some u) : (l.take (k + 1)).filter p = (l.take k).filter p ++ (if p u = true then [u] else []) := by
  rw [take_snoc hu, List.filter_append]
  congr 1
  by_cases h : p u = true <;> simp [h]
theorem filter_take_le {α : Type} (p : α → Bool) (l : List α) (k : Nat) : ((l.take k).filter p).length ≤ k := Nat.le_trans (List.length_filter_le _ _) (by simp; omega)
theorem arr_split {α β : Type} {g : α → β} {es : List α} {A : List (Option β)} (h : ∀ (q : Nat) (x : α), es[q]? = some x → A[q]? = some (some (g x))) : A = (es.map g).map some ++ A.drop es.length := by
  apply List.ext_getElem?
  intro q
  by_cases hq : q < es.length
  · rw [List.getElem?_append_left (by simpa using hq)]
    simp only [List.getElem?_map]
    rw [h q es[q] (List.getElem?_eq_getElem hq), List.getElem?_eq_getElem hq]
    rfl
  · rw [List.getElem?_append_right (by simp; omega), List.getElem?_drop]
    simp only [List.length_map]
    congr 1; omega
theorem arr_start {α β : Type} (g : α → β) (es : List α) (junk : List (Option β)) : ∀ (q : Nat) (x : α), es[q]? = some x → ((es.map g).map some ++ junk)[q]? = some (some (g x)) := fun q x h => by
  have hq := (List.getElem?_eq_some_iff.1 h).1
  rw [List.getElem?_append_left (by simpa using hq)]
  simp [h]
theorem IndexFuncV_bd_ok (ns : List ByteArray) (ts : List Bd) (hlen : ts.length ≤ 1000000000) (cap : Nat) (A : List (Option (List D))) (hA : ∀ (q : Nat) (x : Bd), ts[q]? = some x → A[q]? = some (some (bdD x))) (p : Bd → Bool)
    (hstep : ∀ u ∈ ts, AC Tryz.prog 105 ((fun b => .agg (lift false (bdD b))) u :: [.ptr 3 0]) [(3, .box [.dat false 1 (strDs ns)])] (fun r O => r = bv (p u) ∧ O = [(3, .box [.dat false 1 (strDs ns)])])) :
    AC Tryz.prog 162 [.vw 0 0 ts.length cap, .fn 105 [.ptr 3 0]] ((0, .arr 40 5 false A) :: [(3, .box [.dat false 1 (strDs ns)])]) (fun r O => ∃ (m : Nat) (i : Int), (m ≤ ts.length ∧ ∀ x ∈ ts.take m, p x = false) ∧ ((m < ts.length ∧ (∃ x, ts[m]? = some x ∧ p x = true) ∧ i = m) ∨ (m = ts.length ∧ i = -1)) ∧ r = iv i ∧ O = (0, .arr 40 5 false A) :: [(3, .box [.dat false 1 (strDs ns)])]) := by
  refine AC_intro Tryz.func162 rfl Tryz.ntmps162 (Nat.le_of_ble_eq_true rfl) fun c hL hQ hDD => ?_; refine awp_seq ?_; refine awp_region ?_; refine awps_stp0 rfl rfl (by decide) (stp_move (.inr rfl) rfl) ?_; refine awps_nil ?_; refine thenQ_nil ?_; refine awp_seq ?_; refine awp_seq ?_; refine awp_region ?_; refine awps_stp0 rfl rfl (by decide) (stp_move (.inl rfl) rfl) ?_; refine awps_stp0 rfl rfl (by decide) (stp_len_vw rfl sl_S_api_Bind rfl) ?_; refine awps_stp0 rfl rfl (by decide) (stp_move (.inl rfl) rfl) ?_; refine awps_nil ?_; refine thenQ_nil ?_; refine awp_block ?_
  refine awp_while (ts.length) (fun k => k ≤ ts.length ∧ ∀ x ∈ ts.take k, p x = false) (fun k => ⟨[(0, .vw 0 0 ts.length cap), (1, .fn 105 [.ptr 3 0]), (7, iv (ts.length : Int)), (8, iv (k : Int))], [(0, .arr 40 5 false A), (3, .box [.dat false 1 (strDs ns)])]⟩) (⟨by omega, fun x hx => by simp at hx⟩) ?_ (fun k hk hp => ?_)
  · exact sub_re (SubT.cons (lk_eq rfl (by first | rfl | simp)) (SubT.cons (lk_eq rfl (by first | rfl | simp)) (SubT.cons (lk_eq rfl (by first | rfl | simp)) (SubT.cons (lk_eq rfl (by first | rfl | simp)) (SubT.nil))))) (SubO.cons (ok_eq rfl (by rfl)) (SubO.cons (ok_eq rfl (by rfl)) (SubO.nil))) rfl rfl (LO hL rfl)
  refine awp_seq ?_; refine awp_region ?_; refine awps_stp0 rfl rfl (by decide) (stp_binI rfl rfl rfl rfl) ?_; refine awps_nil ?_; refine thenQ_nil ?_; refine awp_seq ?_; refine awp_cond rfl (fun c0 => ?_) (fun c0 => ?_)
  · try simp only [↓cqA, cqB] at c0
    obtain ⟨u, hu⟩ := get_of_lt (l := ts) (k := k) (by omega)
    refine awp_skip ?_; refine thenQ_nil ?_; refine awp_seq ?_; refine awp_block ?_; refine awp_seq ?_; refine awp_region ?_; refine awps_stp0 rfl rfl (by decide) (stp_move (.inl rfl) rfl) ?_; refine awps_stp0 rfl rfl (by decide) (stp_move (.inr rfl) rfl) ?_; refine awps_nil ?_; refine thenQ_nil ?_; refine awp_seq ?_; refine awp_region ?_
    refine awps_stp0 rfl rfl (by decide) (stp_move (.inl rfl) rfl) ?_; refine awps_stp0 rfl rfl (by decide) (stp_move (.inl rfl) rfl) ?_; refine awps_stp0 rfl rfl (by decide) (stp_move (.inl rfl) rfl) ?_; refine awps_stp0 rfl rfl (by decide) (stp_indexAddr_vw rfl sl_S_api_Bind rfl rfl (by omega) (by omega)) ?_
    refine awps_stp0 rfl rfl (by decide) (stp_load_arr (i := k) (j := 0) rfl tf_api_Bind rfl rfl (by simp) (hA k u hu) (by decide) (by decide) rfl) ?_; refine awps_callP (avs := [_]) false rfl rfl rfl (by decide) en_bind_Only_1 rfl rfl (hstep u (List.mem_of_getElem? hu)) (rfl) (passO (.cons rfl trivial rfl .nil)) (by rintro r O' ⟨_, rfl⟩; exact frB rfl) (by rintro h; cases h) ?_
    rintro r O' ⟨rfl, rfl⟩
    refine awps_nil ?_; refine thenQ_nil ?_; refine awp_cond rfl (fun c1 => ?_) (fun c1 => ?_)
    · try simp only [↓cqA, cqB] at c1
      refine awp_seq ?_; refine awp_region ?_; refine awps_stp0 rfl rfl (by decide) (stp_move (.inl rfl) rfl) ?_; refine awps_stp0 rfl rfl (by decide) (stp_move (.inr rfl) rfl) ?_; refine awps_nil ?_; refine thenQ_nil ?_; refine awp_ret ?_; refine inQ_ret (thenQ_ret (thenQ_ret (inQ_ret (thenQ_ret (?_)))))
      change retQ _ _ _ _ _ _ _
      refine retO (O' := (0, _) :: [(3, .box [.dat false 1 (strDs ns)])]) (.inl rfl) (resAs_tmp rfl resAs_nil) (SubO.cons rfl (SubO.cons rfl SubO.nil)) ?_ ?_ (LO hL rfl) ?_
      · rfl
      · rfl
      exact ⟨k, _, ⟨by omega, hp.2⟩, .inl ⟨by omega, ⟨u, hu, c1⟩, rfl⟩, rfl, rfl⟩
    try simp only [↓cqA, cqB] at c1
    refine awp_skip ?_; refine inQ_nil ?_; refine thenQ_nil ?_; refine awp_region ?_; refine awps_stp0 rfl rfl (by decide) (stp_add rfl rfl rfl (by omega)) ?_; refine awps_stp0 rfl rfl (by decide) (stp_move (.inl rfl) rfl) ?_; refine awps_nil ?_; refine thenQ_nil ?_; refine ⟨?_, ?_, ?_⟩
    · skip
      omega
    · skip
      refine ⟨by omega, fun x hx => ?_⟩
      rw [take_snoc hu] at hx
      rcases List.mem_append.1 hx with h | h
      · exact hp.2 x h
      · rw [List.mem_singleton.1 h]; exact c1
    exact sub_re (SubT.cons (lk_eq rfl (by first | rfl | simp)) (SubT.cons (lk_eq rfl (by first | rfl | simp)) (SubT.cons (lk_eq rfl (by first | rfl | simp)) (SubT.cons (lk_eq rfl (by first | rfl | simp)) (SubT.nil))))) (SubO.cons (ok_eq rfl (by rfl)) (SubO.cons (ok_eq rfl (by rfl)) (SubO.nil))) rfl rfl (LO hL rfl)
  try simp only [↓cqA, cqB] at c0
  refine awp_exit ?_; refine thenQ_exit (thenQ_exit (inQ_hit ?_)); refine thenQ_nil ?_; refine awp_seq ?_; refine awp_region ?_; refine awps_stp0 rfl rfl (by decide) (stp_move (.inr rfl) rfl) ?_; refine awps_nil ?_; refine thenQ_nil ?_; refine awp_ret ?_
  change retQ _ _ _ _ _ _ _
  refine retO (O' := (0, _) :: [(3, .box [.dat false 1 (strDs ns)])]) (.inl rfl) (resAs_tmp rfl resAs_nil) (SubO.cons rfl (SubO.cons rfl SubO.nil)) ?_ ?_ (LO hL rfl) ?_
  · rfl
  · rfl
  exact ⟨k, _, ⟨by omega, hp.2⟩, .inr ⟨by omega, rfl⟩, rfl, rfl⟩
theorem DeleteFunc_bd_ok (ns : List ByteArray) (ts : List Bd) (hlen : ts.length ≤ 1000000000) (cap : Nat) (hc1 : ts.length ≤ cap) (hc2 : cap ≤ maxLen) (p : Bd → Bool)
    (hstep : ∀ u ∈ ts, AC Tryz.prog 105 ((fun b => .agg (lift false (bdD b))) u :: [.ptr 3 0]) [(3, .box [.dat false 1 (strDs ns)])] (fun r O => r = bv (p u) ∧ O = [(3, .box [.dat false 1 (strDs ns)])])) :
    AC Tryz.prog 104 [.vw 0 0 ts.length cap, .fn 105 [.ptr 3 0]] ((0, .arr 40 5 false ((ts.map bdD).map some ++ List.replicate (cap - ts.length) none)) :: [(3, .box [.dat false 1 (strDs ns)])]) (fun r O => ∃ A' : List (Option (List D)), A'.length = cap ∧ (∀ (q : Nat) (x : Bd), (ts.filter (fun u => !(p u)))[q]? = some x → A'[q]? = some (some (bdD x))) ∧ r = .vw 0 0 (ts.filter (fun u => !(p u))).length cap ∧ O = (0, .arr 40 5 false A') :: [(3, .box [.dat false 1 (strDs ns)])]) := by
  have hml : maxLen = 9223372036854775807 := rfl
  have hAl : ((ts.map bdD).map some ++ List.replicate (cap - ts.length) (none : Option (List D))).length = cap := by simp; omega
  refine AC_intro Tryz.func104 rfl Tryz.ntmps104 (Nat.le_of_ble_eq_true rfl) fun c hL hQ hDD => ?_; refine awp_seq ?_; refine awp_region ?_; refine awps_stp0 rfl rfl (by decide) (stp_move (.inr rfl) rfl) ?_; refine awps_nil ?_; refine thenQ_nil ?_; refine awp_seq ?_; refine awp_region ?_; refine awps_stp0 rfl rfl (by decide) (stp_move (.inl rfl) rfl) ?_
  refine awps_stp0 rfl rfl (by decide) (stp_move (.inl rfl) rfl) ?_; refine awps_callP (avs := [_, _]) false rfl rfl rfl (by decide) en_slices_IndexFunc_api_Bind_api_Bind rfl rfl (IndexFuncV_bd_ok ns ts hlen cap _ (arr_start bdD ts _) p hstep) (rfl) (passO (.cons rfl trivial rfl (.cons rfl trivial rfl .nil))) (by rintro r O' ⟨m, i, _, _, _, rfl⟩; exact frB rfl) (by rintro h; cases h) ?_
  rintro r O' ⟨m, i, ⟨hm1, hno⟩, hc, rfl, rfl⟩
  have hkeep : (ts.take m).filter (fun u => !(p u)) = ts.take m := List.filter_eq_self.2 fun x hx => by rw [hno x hx]; rfl
  refine awps_stp0 rfl rfl (by decide) (stp_move (.inr rfl) rfl) ?_; refine awps_nil ?_; refine thenQ_nil ?_; refine awp_seq ?_; refine awp_seq ?_; refine awp_region ?_; refine awps_stp0 rfl rfl (by decide) (stp_move (.inl rfl) rfl) ?_; refine awps_stp0 rfl rfl (by decide) (stp_binI rfl rfl rfl rfl) ?_; refine awps_nil ?_; refine thenQ_nil ?_; refine awp_cond rfl (fun c0 => ?_) (fun c0 => ?_)
  · try simp only [↓cqA, cqB] at c0
    refine awp_seq ?_; refine awp_region ?_; refine awps_stp0 rfl rfl (by decide) (stp_move (.inl rfl) rfl) ?_; refine awps_stp0 rfl rfl (by decide) (stp_move (.inr rfl) rfl) ?_; refine awps_nil ?_; refine thenQ_nil ?_; refine awp_ret ?_; refine thenQ_ret (?_)
    change retQ _ _ _ _ _ _ _
    refine retO (O' := (0, _) :: [(3, .box [.dat false 1 (strDs ns)])]) (.inl rfl) (resAs_tmp rfl resAs_nil) (SubO.cons rfl (SubO.cons rfl SubO.nil)) ?_ ?_ (LO hL rfl) ?_
    · rfl
    · rfl
    have hmt : m = ts.length := by rcases hc with ⟨_, _, h⟩ | ⟨h, _⟩ <;> omega
    rw [hmt, List.take_length] at hkeep
    exact ⟨_, hAl, by rw [hkeep]; exact arr_start bdD ts _, by rw [hkeep]; rfl, rfl⟩
  try simp only [↓cqA, cqB] at c0
  obtain ⟨hmt, him, x0, hx0, hpx⟩ : m < ts.length ∧ i = (m : Int) ∧ ∃ x, ts[m]? = some x ∧ p x = true := by
    rcases hc with ⟨h1, h2, h3⟩ | ⟨_, h⟩
    · exact ⟨h1, h3, h2⟩
    · omega
  subst him
  have hq0 : (ts.take (m + 1 + 0)).filter (fun u => !(p u)) = ts.take m := by rw [Nat.add_zero, filter_snoc _ hx0, hkeep, hpx]; simp
  have hq1 : m = ((ts.take (m + 1 + 0)).filter (fun u => !(p u))).length := by rw [hq0]; simp; omega
  have hq2 : ∀ (q : Nat) (x : Bd), ((ts.take (m + 1 + 0)).filter (fun u => !(p u)))[q]? = some x → ((ts.map bdD).map some ++ List.replicate (cap - ts.length) none)[q]? = some (some (bdD x)) := fun q x hq => by
    rw [hq0, List.getElem?_take] at hq
    split at hq
    · exact arr_start bdD ts _ q x hq
    · cases hq
  refine awp_skip ?_; refine thenQ_nil ?_; refine awp_seq ?_; refine awp_seq ?_; refine awp_region ?_; refine awps_stp0 rfl rfl (by decide) (stp_move (.inl rfl) rfl) ?_; refine awps_stp0 rfl rfl (by decide) (stp_add rfl rfl rfl (by omega)) ?_; refine awps_stp0 rfl rfl (by decide) (stp_move (.inr rfl) rfl) ?_; refine awps_nil ?_; refine thenQ_nil ?_; refine awp_block ?_
  refine awp_whileE (α := Nat × List (Option (List D))) (ts.length) (fun k a => a.1 = ((ts.take (m + 1 + k)).filter (fun u => !(p u))).length ∧ m + 1 + k ≤ ts.length ∧ a.2.length = cap ∧ (∀ (q : Nat) (x : Bd), ((ts.take (m + 1 + k)).filter (fun u => !(p u)))[q]? = some x → a.2[q]? = some (some (bdD x))) ∧ ∀ (q : Nat) (x : Bd), m + 1 + k ≤ q → ts[q]? = some x → a.2[q]? = some (some (bdD x))) (fun k a => ⟨[(0, .vw 0 0 ts.length cap), (1, .fn 105 [.ptr 3 0]), (5, iv (a.1 : Int)), (6, iv ((m + 1 + k : Nat) : Int))], [(0, .arr 40 5 false a.2), (3, .box [.dat false 1 (strDs ns)])]⟩) ((m, (ts.map bdD).map some ++ List.replicate (cap - ts.length) none)) (⟨hq1, by omega, hAl, hq2, fun q x _ hq => arr_start bdD ts _ q x hq⟩) ?_ (fun k a hk hp => ?_)
  · exact sub_re (SubT.cons (lk_eq rfl (by first | rfl | simp)) (SubT.cons (lk_eq rfl (by first | rfl | simp)) (SubT.cons (lk_eq rfl (by first | rfl | simp)) (SubT.cons (lk_eq rfl (by exact int_imm (by push_cast; omega))) (SubT.nil))))) (SubO.cons (ok_eq rfl (by rfl)) (SubO.cons (ok_eq rfl (by rfl)) (SubO.nil))) rfl rfl (LO hL rfl)
  have hfl := filter_take_le (fun u => !(p u)) ts (m + 1 + k)
  refine awp_seq ?_; refine awp_seq ?_; refine awp_region ?_; refine awps_stp0 rfl rfl (by decide) (stp_move (.inl rfl) rfl) ?_; refine awps_stp0 rfl rfl (by decide) (stp_move (.inl rfl) rfl) ?_; refine awps_stp0 rfl rfl (by decide) (stp_len_vw rfl sl_S_api_Bind rfl) ?_; refine awps_stp0 rfl rfl (by decide) (stp_binI rfl rfl rfl rfl) ?_; refine awps_nil ?_; refine thenQ_nil ?_; refine awp_cond rfl (fun c1 => ?_) (fun c1 => ?_)
  · try simp only [↓cqA, cqB] at c1
    obtain ⟨u, hu⟩ := get_of_lt (l := ts) (k := m + 1 + k) (by omega)
    have hfs := filter_snoc (fun u => !(p u)) hu
    refine awp_skip ?_; refine thenQ_nil ?_; refine awp_seq ?_; refine awp_block ?_; refine awp_seq ?_; refine awp_region ?_; refine awps_stp0 rfl rfl (by decide) (stp_move (.inl rfl) rfl) ?_; refine awps_stp0 rfl rfl (by decide) (stp_move (.inl rfl) rfl) ?_; refine awps_stp0 rfl rfl (by decide) (stp_indexAddr_vw rfl sl_S_api_Bind rfl rfl (by omega) (by omega)) ?_
    refine awps_stp0 rfl rfl (by decide) (stp_load_arr (i := m + 1 + k) (j := 0) rfl tf_api_Bind rfl rfl (by simp only [Nat.zero_add, Int.toNat_natCast, Nat.add_zero]) (hp.2.2.2.2 _ u (Nat.le_refl _) hu) (by decide) (by decide) rfl) ?_; refine awps_stp1 rfl rfl (by decide) (stp_alloc 7 rfl zv_api_Bind rfl) rfl ?_; refine awps_store rfl rfl rfl tf_api_Bind rfl rfl rfl rfl rfl rfl rfl rfl rfl ?_; refine awps_nil ?_; refine thenQ_nil ?_; refine awp_seq ?_; refine awp_region ?_; refine awps_stp0 rfl rfl (by decide) (stp_move (.inl rfl) rfl) ?_
    refine awps_stp0 rfl rfl (by decide) (stp_load_all rfl tf_api_Bind rfl rfl rfl rfl) ?_; refine awps_callP (avs := [_]) false rfl rfl rfl (by decide) en_bind_Only_1 rfl rfl (hstep u (List.mem_of_getElem? hu)) (rfl) (passO (.cons rfl trivial rfl .nil)) (by rintro r O' ⟨_, rfl⟩; exact frB rfl) (by rintro h; cases h) ?_
    rintro r O' ⟨rfl, rfl⟩
    refine awps_stp0 rfl rfl (by decide) (stp_not rfl rfl) ?_; refine awps_nil ?_; refine thenQ_nil ?_; refine awp_cond rfl (fun c2 => ?_) (fun c2 => ?_)
    · try simp only [↓cqA, cqB] at c2
      have hpu : p u = false := by simpa using c2
      let a2 : Nat × List (Option (List D)) := (a.1 + 1, a.2.set a.1 (some (bdD u)))
      have hstp : a2.1 = ((ts.take (m + 1 + (k + 1))).filter (fun u => !(p u))).length ∧ a2.2.length = cap ∧ (∀ (q : Nat) (x : Bd), ((ts.take (m + 1 + (k + 1))).filter (fun u => !(p u)))[q]? = some x → a2.2[q]? = some (some (bdD x))) ∧ ∀ (q : Nat) (x : Bd), m + 1 + (k + 1) ≤ q → ts[q]? = some x → a2.2[q]? = some (some (bdD x)) := by
        rw [hpu] at hfs
        rw [show m + 1 + (k + 1) = m + 1 + k + 1 by omega, hfs]
        refine ⟨by simp [a2, hp.1], by simp [a2, hp.2.2.1], fun q x hq => ?_, fun q x hq hx => ?_⟩
        · simp only [a2, List.getElem?_set]
          by_cases hqa : a.1 = q
          · subst hqa
            rw [if_pos rfl, if_pos (by omega)]
            rw [List.getElem?_append_right (by omega)] at hq
            simp [hp.1] at hq
            rw [hq]
          · rw [if_neg hqa]
            rcases Nat.lt_or_ge q a.1 with h1 | h1
            · rw [List.getElem?_append_left (by omega)] at hq
              exact hp.2.2.2.1 q x hq
            · have := (List.getElem?_eq_some_iff.1 hq).1
              simp at this; omega
        · simp only [a2, List.getElem?_set]
          rw [if_neg (by omega)]
          exact hp.2.2.2.2 q x (by omega) hx
      refine awp_seq ?_; refine awp_region ?_; refine awps_stp0 rfl rfl (by decide) (stp_move (.inl rfl) rfl) ?_; refine awps_stp0 rfl rfl (by decide) (stp_move (.inl rfl) rfl) ?_; refine awps_stp0 rfl rfl (by decide) (stp_load_all rfl tf_api_Bind rfl rfl rfl rfl) ?_
      refine awps_stp0 rfl rfl (by decide) (stp_indexAddr_vw rfl sl_S_api_Bind rfl rfl (by omega) (by omega)) ?_; refine awps_storeArr a.1 rfl rfl rfl tf_api_Bind rfl rfl (by simp) (by omega) rfl rfl rfl rfl rfl rfl ?_; refine awps_nil ?_; refine thenQ_nil ?_; refine awp_region ?_; refine awps_stp0 rfl rfl (by decide) (stp_move (.inl rfl) rfl) ?_
      refine awps_stp0 rfl rfl (by decide) (stp_add rfl rfl rfl (by omega)) ?_; refine awps_stp0 rfl rfl (by decide) (stp_move (.inr rfl) rfl) ?_; refine awps_nil ?_; refine inQ_nil ?_; refine thenQ_nil ?_; refine awp_region ?_; refine awps_stp0 rfl rfl (by decide) (stp_move (.inl rfl) rfl) ?_; refine awps_stp0 rfl rfl (by decide) (stp_add rfl rfl rfl (by omega)) ?_; refine awps_stp0 rfl rfl (by decide) (stp_move (.inr rfl) rfl) ?_; refine awps_nil ?_; refine thenQ_nil ?_; refine ⟨?_, a2, ?_, ?_⟩
      · skip
        omega
      · skip
        exact ⟨hstp.1, by omega, hstp.2.1, hstp.2.2.1, hstp.2.2.2⟩
      exact sub_re (SubT.cons (lk_eq rfl (by first | rfl | simp)) (SubT.cons (lk_eq rfl (by first | rfl | simp)) (SubT.cons (lk_eq rfl (by first | rfl | simp)) (SubT.cons (lk_eq rfl (by exact int_imm (by push_cast; omega))) (SubT.nil))))) (SubO.cons (ok_eq rfl (by rfl)) (SubO.cons (ok_eq rfl (by rfl)) (SubO.nil))) rfl rfl (LO hL rfl)
    try simp only [↓cqA, cqB] at c2
    have hpu : p u = true := by simpa using c2
    let a2 : Nat × List (Option (List D)) := a
    have hstp : a2.1 = ((ts.take (m + 1 + (k + 1))).filter (fun u => !(p u))).length ∧ a2.2.length = cap ∧ (∀ (q : Nat) (x : Bd), ((ts.take (m + 1 + (k + 1))).filter (fun u => !(p u)))[q]? = some x → a2.2[q]? = some (some (bdD x))) ∧ ∀ (q : Nat) (x : Bd), m + 1 + (k + 1) ≤ q → ts[q]? = some x → a2.2[q]? = some (some (bdD x)) := by
      rw [hpu] at hfs
      rw [show m + 1 + (k + 1) = m + 1 + k + 1 by omega, hfs]
      simp only [Bool.not_true, Bool.false_eq_true, if_false, List.append_nil]
      exact ⟨hp.1, hp.2.2.1, hp.2.2.2.1, fun q x hq hx => hp.2.2.2.2 q x (by omega) hx⟩
    refine awp_skip ?_; refine inQ_nil ?_; refine thenQ_nil ?_; refine awp_region ?_; refine awps_stp0 rfl rfl (by decide) (stp_move (.inl rfl) rfl) ?_; refine awps_stp0 rfl rfl (by decide) (stp_add rfl rfl rfl (by omega)) ?_; refine awps_stp0 rfl rfl (by decide) (stp_move (.inr rfl) rfl) ?_; refine awps_nil ?_; refine thenQ_nil ?_; refine ⟨?_, a2, ?_, ?_⟩
    · skip
      omega
    · skip
      exact ⟨hstp.1, by omega, hstp.2.1, hstp.2.2.1, hstp.2.2.2⟩
    exact sub_re (SubT.cons (lk_eq rfl (by first | rfl | simp)) (SubT.cons (lk_eq rfl (by first | rfl | simp)) (SubT.cons (lk_eq rfl (by first | rfl | simp)) (SubT.cons (lk_eq rfl (by exact int_imm (by push_cast; omega))) (SubT.nil))))) (SubO.cons (ok_eq rfl (by rfl)) (SubO.cons (ok_eq rfl (by rfl)) (SubO.nil))) rfl rfl (LO hL rfl)
  try simp only [↓cqA, cqB] at c1
  refine awp_exit ?_; refine thenQ_exit (thenQ_exit (inQ_hit ?_)); refine thenQ_nil ?_; refine awp_seq ?_; refine awp_region ?_; refine awps_stp0 rfl rfl (by decide) (stp_move (.inl rfl) rfl) ?_; refine awps_stp0 rfl rfl (by decide) (stp_move (.inl rfl) rfl) ?_; refine awps_stp0 rfl rfl (by decide) (stp_slvL rfl sl_S_api_Bind rfl rfl (by omega) (by omega) (by omega)) ?_
  refine awps_clear a.1 rfl rfl rfl sl_S_api_Bind zv_api_Bind rfl rfl rfl rfl (fun _ => by rw [if_neg (by omega)]; simp) (by omega) (fun es2 hl2 hk2 => ?_); refine awps_nil ?_; refine thenQ_nil ?_; refine awp_seq ?_; refine awp_region ?_; refine awps_stp0 rfl rfl (by decide) (stp_move (.inl rfl) rfl) ?_; refine awps_stp0 rfl rfl (by decide) (stp_move (.inl rfl) rfl) ?_
  refine awps_stp0 rfl rfl (by decide) (stp_slvH rfl sl_S_api_Bind rfl rfl (by omega) (by omega) (by omega)) ?_; refine awps_stp0 rfl rfl (by decide) (stp_move (.inr rfl) rfl) ?_; refine awps_nil ?_; refine thenQ_nil ?_; refine awp_ret ?_
  change retQ _ _ _ _ _ _ _
  refine retO (O' := (0, _) :: [(3, .box [.dat false 1 (strDs ns)])]) (.inl rfl) (resAs_tmp rfl resAs_nil) (SubO.cons rfl (SubO.cons rfl SubO.nil)) ?_ ?_ (LO hL rfl) ?_
  · rfl
  · rfl
  have hall : ts.take (m + 1 + k) = ts := List.take_of_length_le (by omega)
  have h1 := hp.1
  have h4 := hp.2.2.2.1
  rw [hall] at h1 h4
  refine ⟨es2, by rw [hl2]; exact hp.2.2.1, fun q x hq => ?_, ?_, rfl⟩
  · have hqa := (List.getElem?_eq_some_iff.1 hq).1
    rw [hk2 q (by omega)]
    exact h4 q x hq
  · rw [← h1]; simp [resV]
end Go.Proofs.YtdecgkhdbfgldaaGreat

set_option linter.unusedVariables false
set_option linter.unusedSimpArgs false
set_option maxRecDepth 8000
namespace Go.Proofs.YtdecgkhdbfgldaaGreat
open Go
theorem IndexNil_bd_ok (g : FuncId) : AC Tryz.prog 162 [.imm (.slice none 0 0), .fn g [.any]] [] (fun r O => r = iv (-1) ∧ O = []) := by
  refine AC_intro Tryz.func162 rfl Tryz.ntmps162 (Nat.le_of_ble_eq_true rfl) fun c hL hQ hDD => ?_; refine awp_seq ?_; refine awp_region ?_; refine awps_stp0 rfl rfl (by decide) (stp_move (.inr rfl) rfl) ?_; refine awps_nil ?_; refine thenQ_nil ?_; refine awp_seq ?_; refine awp_seq ?_; refine awp_region ?_; refine awps_stp0 rfl rfl (by decide) (stp_move (.inl rfl) rfl) ?_; refine awps_stp0 rfl rfl (by decide) (stp_len_nil rfl sl_S_api_Bind rfl) ?_
  refine awps_stp0 rfl rfl (by decide) (stp_move (.inl rfl) rfl) ?_; refine awps_nil ?_; refine thenQ_nil ?_; refine awp_block ?_; refine awp_while (0) (fun k => True) (fun k => ⟨[(0, .imm (.slice none 0 0)), (1, .fn g [.any]), (7, iv 0), (8, iv (k : Int))], []⟩) (trivial) ?_ (fun k hk hp => ?_)
  · exact sub_re (SubT.cons (lk_eq rfl (by first | rfl | simp)) (SubT.cons (lk_eq rfl (by first | rfl | simp)) (SubT.cons (lk_eq rfl (by first | rfl | simp)) (SubT.cons (lk_eq rfl (by first | rfl | simp)) (SubT.nil))))) (SubO.nil) rfl rfl (noL' (noL hL) _)
  refine awp_seq ?_; refine awp_region ?_; refine awps_stp0 rfl rfl (by decide) (stp_binI rfl rfl rfl rfl) ?_; refine awps_nil ?_; refine thenQ_nil ?_; refine awp_seq ?_; refine awp_cond rfl (fun c0 => ?_) (fun c0 => ?_)
  · try simp only [↓cqA, cqB] at c0
    omega
  try simp only [↓cqA, cqB] at c0
  refine awp_exit ?_; refine thenQ_exit (thenQ_exit (inQ_hit ?_)); refine thenQ_nil ?_; refine awp_seq ?_; refine awp_region ?_; refine awps_stp0 rfl rfl (by decide) (stp_move (.inr rfl) rfl) ?_; refine awps_nil ?_; refine thenQ_nil ?_; refine awp_ret ?_
  -- leaf 0F
  refine ret0 (noL hL) (.inl rfl) (resAs_tmp rfl (resAs_nil)) ?_ ?_
  · rfl
  exact ⟨rfl, rfl⟩
theorem DeleteNil_bd_ok (g : FuncId) : AC Tryz.prog 104 [.imm (.slice none 0 0), .fn g [.any]] [] (fun r O => r = .imm (.slice none 0 0) ∧ O = []) := by
  refine AC_intro Tryz.func104 rfl Tryz.ntmps104 (Nat.le_of_ble_eq_true rfl) fun c hL hQ hDD => ?_; refine awp_seq ?_; refine awp_region ?_; refine awps_stp0 rfl rfl (by decide) (stp_move (.inr rfl) rfl) ?_; refine awps_nil ?_; refine thenQ_nil ?_; refine awp_seq ?_; refine awp_region ?_; refine awps_stp0 rfl rfl (by decide) (stp_move (.inl rfl) rfl) ?_
  refine awps_stp0 rfl rfl (by decide) (stp_move (.inl rfl) rfl) ?_; refine awps_call (avs := [_, _]) true rfl rfl rfl (by decide) en_slices_IndexFunc_api_Bind_api_Bind rfl rfl (IndexNil_bd_ok g) rfl rfl ?_; refine awps_stp0 rfl rfl (by decide) (stp_move (.inr rfl) rfl) ?_; refine awps_nil ?_; refine thenQ_nil ?_; refine awp_seq ?_; refine awp_seq ?_; refine awp_region ?_
  refine awps_stp0 rfl rfl (by decide) (stp_move (.inl rfl) rfl) ?_; refine awps_stp0 rfl rfl (by decide) (stp_binI rfl rfl rfl rfl) ?_; refine awps_nil ?_; refine thenQ_nil ?_; refine awp_cond rfl (fun c0 => ?_) (fun c0 => ?_)
  · try simp only [↓cqA, cqB] at c0
    refine awp_seq ?_; refine awp_region ?_; refine awps_stp0 rfl rfl (by decide) (stp_move (.inl rfl) rfl) ?_; refine awps_stp0 rfl rfl (by decide) (stp_move (.inr rfl) rfl) ?_; refine awps_nil ?_; refine thenQ_nil ?_; refine awp_ret ?_; refine thenQ_ret (?_)
    -- leaf 0T
    refine ret0 (noL hL) (.inl rfl) (resAs_tmp rfl (resAs_nil)) ?_ ?_
    · rfl
    exact ⟨rfl, rfl⟩
  try simp only [↓cqA, cqB] at c0
  simp at c0
def inN (ns : List ByteArray) (b : Bd) : Bool := ns.any (fun s => decide (s = b.name))
theorem Only1_ok (ns : List ByteArray) (hn : ns.length ≤ 140737488351232) (b : Bd) : AC Tryz.prog 105 [.agg (lift false (bdD b)), .ptr 3 0] [(3, .box [.dat false 1 (strDs ns)])] (fun r O => r = bv (!(inN ns b)) ∧ O = [(3, .box [.dat false 1 (strDs ns)])]) := by
  refine AC_intro Tryz.func105 rfl Tryz.ntmps105 (Nat.le_of_ble_eq_true rfl) fun c hL hQ hDD => ?_; refine awp_seq ?_; refine awp_region ?_; refine awps_stp1 rfl rfl (by decide) (stp_box 2 rfl rfl rfl) rfl ?_; refine awps_stp0 rfl rfl (by decide) (stp_move (.inr rfl) rfl) ?_; refine awps_nil ?_; refine thenQ_nil ?_; refine awp_seq ?_; refine awp_region ?_; refine awps_stp0 rfl rfl (by decide) (stp_load rfl tf_S_string rfl rfl rfl rfl rfl) ?_; refine awps_stp0 rfl rfl (by decide) (stp_fieldAddr rfl fo_api_Bind_0 rfl) ?_
  refine awps_stp0 rfl rfl (by decide) (stp_load rfl tf_string rfl rfl rfl rfl rfl) ?_; refine awps_call (avs := [_, _]) false rfl rfl rfl (by decide) en_slices_Contains_string_string rfl rfl (Contains_st_ok ns b.name hn) rfl rfl ?_; refine awps_stp0 rfl rfl (by decide) (stp_not rfl rfl) ?_; refine awps_stp0 rfl rfl (by decide) (stp_move (.inr rfl) rfl) ?_; refine awps_nil ?_; refine thenQ_nil ?_; refine awp_ret ?_
  -- leaf 
  change retQ _ _ _ _ _ _ _
  refine retO (O' := [(3, _)]) (.inl rfl) (resAs_tmp rfl resAs_nil) (SubO.cons rfl SubO.nil) ?_ ?_ (LO hL rfl) ?_
  · rfl
  · rfl
  exact ⟨rfl, rfl⟩
def onlyL (l : List Bd) (ns : List ByteArray) : List Bd := if mayB l = true then l.filter (inN ns) else []
def onlyE (l : List Bd) : Int := if mayB l = true then 0 else 1
theorem filter_nn (l : List Bd) (ns : List ByteArray) : l.filter (fun u => !(!(inN ns u))) = l.filter (inN ns) := by
  congr 1; funext u; simp
theorem Only_ok (l : List Bd) (hw : ∀ b ∈ l, b.wf) (ns : List ByteArray) (hn : ns.length ≤ 140737488351232) : AC Tryz.prog 36 [bdA l, .dat false 1 (strDs ns)] [] (fun r O => ∃ v, r = .tup [v, iv (onlyE l)] ∧ ((v = .imm (.slice none 0 0) ∧ onlyL l ns = []) ∨ v = bdA (onlyL l ns)) ∧ O = []) := by
  refine AC_intro Tryz.func36 rfl Tryz.ntmps36 (Nat.le_of_ble_eq_true rfl) fun c hL hQ hDD => ?_; refine awp_seq ?_; refine awp_region ?_; refine awps_stp1 rfl rfl (by decide) (stp_box 3 rfl rfl rfl) rfl ?_; refine awps_stp0 rfl rfl (by decide) (stp_move (.inr rfl) rfl) ?_; refine awps_stp0 rfl rfl (by decide) (stp_move (.inr rfl) rfl) ?_; refine awps_nil ?_; refine thenQ_nil ?_
  refine awp_seq ?_; refine awp_seq ?_; refine awp_region ?_; refine awps_stp0 rfl rfl (by decide) (stp_move (.inl rfl) rfl) ?_; refine awps_call (avs := [_]) true rfl rfl rfl (by decide) en_bind_May rfl rfl (bindMay_ok l hw) rfl rfl ?_; refine awps_stp0 rfl rfl (by decide) (stp_not rfl rfl) ?_; refine awps_nil ?_; refine thenQ_nil ?_; refine awp_cond rfl (fun c0 => ?_) (fun c0 => ?_)
  · try simp only [↓cqA, cqB] at c0
    refine awp_seq ?_; refine awp_region ?_; refine awps_stp0 rfl rfl (by decide) (stp_move (.inr rfl) rfl) ?_; refine awps_stp0 rfl rfl (by decide) (stp_move (.inr rfl) rfl) ?_; refine awps_nil ?_; refine thenQ_nil ?_; refine awp_ret ?_; refine thenQ_ret (?_)
    -- leaf 0T
    refine ret0 (noL hL) (.inl rfl) (resAs_tmp rfl (resAs_tmp rfl (resAs_nil))) ?_ ?_
    · rfl
    exact ⟨_, by rw [onlyE, if_neg (by simp [c0])]; rfl, .inl ⟨rfl, by rw [onlyL, if_neg (by simp [c0])]⟩, rfl⟩
  try simp only [↓cqA, cqB] at c0
  have hok := mayB_bok c0 hw
  have hll := hok.len
  have hbl := bdDs_length l
  have hfl := bdDs_length (l.filter (inN ns))
  have hE : onlyE l = 0 := by rw [onlyE, if_pos c0]
  have hLL : onlyL l ns = l.filter (inN ns) := by rw [onlyL, if_pos c0]
  refine awp_skip ?_; refine thenQ_nil ?_; refine awp_seq ?_; refine awp_region ?_; refine awps_stp0 rfl rfl (by decide) (stp_move (.inl rfl) rfl) ?_; refine awps_callP (avs := [_]) true rfl rfl rfl (by decide) en_bind_Own rfl rfl (bindOwn_ok l hok) (rfl) (passO .nil) (by rintro r O' ⟨_, rfl⟩; exact frB rfl) (by rintro - r O' ⟨rfl, rfl⟩; exact ⟨rfl, rfl⟩) ?_
  rintro r O' ⟨rfl, rfl⟩
  refine awps_stp0 rfl rfl (by decide) (stp_makeFunc (vs := [_]) rfl rfl) ?_; refine awps_via ⟨[(12, .row 0)], [(0, .rowd 40 5 false (bdDs (l.filter (inN ns))))]⟩ (fun Q2 K => ?_) ?_
  · refine awps_sub (sub_untag hQ) ?_
    refine awps_sub (sub_re (T1 := [(10, .row 2), (11, .fn 105 [.ptr 3 0])]) (O1 := [(2, .rowd 40 5 false (bdDs l)), (3, .box [.dat false 1 (strDs ns)])]) (SubT.cons rfl (SubT.cons rfl SubT.nil)) (SubO.cons rfl (SubO.cons rfl SubO.nil)) rfl rfl (noL' (noL hL) _)) ?_; refine awps_sub (sub_rename 2 0 (noL hL _) (noL hL _)) ?_; refine awps_open (l := 0) rfl (by decide) (noL hL _) (fun he => ?_) (fun cap h1 h2 => ?_)
    · have hl0 : l = [] := by cases l with
        | nil => rfl
        | cons a l => simp [bdDs] at he
      rw [hl0] at K
      refine awps_callP (avs := [_, _]) false rfl rfl rfl (by decide) en_slices_DeleteFunc_api_Bind_api_Bind rfl rfl (DeleteNil_bd_ok _) rfl (passO .nil) (by rintro r O' ⟨_, rfl⟩; exact frB rfl) (by rintro h; cases h) ?_
      rintro r O' ⟨rfl, rfl⟩
      exact awps_sub (Sub.trans (sub_nil_row (t := 12) (l := 9) 40 5 false rfl rfl) (Sub.trans (sub_re (T1 := [(12, .row 9)]) (O1 := [(9, .rowd 40 5 false [])]) (SubT.cons rfl SubT.nil) (SubO.cons rfl SubO.nil) rfl rfl (noL' (noL hL) _)) (Sub.trans (sub_rename 9 0 (noL hL _) (noL hL _)) (sub_re (SubT.cons rfl SubT.nil) (SubO.cons rfl SubO.nil) rfl rfl (noL' (noL hL) _))))) K
    · rw [hbl] at h1 ⊢
      refine awps_callP (avs := [_, _]) false rfl rfl rfl (by decide) en_slices_DeleteFunc_api_Bind_api_Bind rfl rfl (DeleteFunc_bd_ok ns l (by omega) cap h1 h2 (fun b => !(inN ns b)) (fun b _ => Only1_ok ns hn b)) rfl (passO (.cons rfl trivial rfl (.cons rfl trivial rfl .nil))) (by rintro r O' ⟨A', _, _, _, rfl⟩; exact frB rfl) (by rintro h; cases h) ?_
      rintro r O' ⟨A', hA1, hA2, rfl, rfl⟩
      rw [filter_nn] at hA2 ⊢
      exact awps_sub (Sub.trans (sub_close (l := 0) (cap := cap) (n := (l.filter (inN ns)).length) (bdDs (l.filter (inN ns))) rfl (noL hL _) ⟨_, arr_split hA2⟩ hfl.symm hA1.symm) (sub_re (SubT.cons (lk_eq rfl (by simp [AV.rp, clV])) SubT.nil) (SubO.cons rfl SubO.nil) rfl rfl (noL' (noL hL) _))) K
  refine awps_stp0 rfl rfl (by decide) (stp_move (.inr rfl) rfl) ?_; refine awps_sub (sub_freeze (l := 0) rfl (by decide) (noL hL _) rfl rfl) ?_; refine awps_stp0 rfl rfl (by decide) (stp_move (.inr rfl) rfl) ?_; refine awps_nil ?_; refine thenQ_nil ?_; refine awp_ret ?_
  -- leaf 0F
  refine ret0 (noL hL) (.inl rfl) (resAs_tmp rfl (resAs_tmp rfl (resAs_nil))) ?_ ?_
  · rfl
  exact ⟨_, by rw [hE]; rfl, .inr (by rw [hLL]; rfl), rfl⟩
end Go.Proofs.YtdecgkhdbfgldaaGreat

set_option linter.unusedVariables false
set_option linter.unusedSimpArgs false
set_option maxRecDepth 8000
namespace Go.Proofs.YtdecgkhdbfgldaaGreat
open Go
theorem Has_ok (ns : List ByteArray) (hn : ns.length ≤ 140737488351232) (s : ByteArray) : PF 107 [.dat false 1 (strDs ns), sv s] (bv (ns.any fun x => decide (x = s))) := by
  have hln := strDs_length ns
  refine AC_intro Tryz.func107 rfl Tryz.ntmps107 (Nat.le_of_ble_eq_true rfl) fun c hL hQ hDD => ?_; refine awp_seq ?_; refine awp_region ?_; refine awps_stp0 rfl rfl (by decide) (stp_move (.inr rfl) rfl) ?_; refine awps_nil ?_; refine thenQ_nil ?_; refine awp_seq ?_; refine awp_seq ?_; refine awp_region ?_; refine awps_stp0 rfl rfl (by decide) (stp_move (.inr rfl) rfl) ?_; refine awps_nil ?_
  refine thenQ_nil ?_; refine awp_block ?_; refine awp_while (ns.length) (fun k => k ≤ ns.length ∧ ∀ (j : Nat) (x : ByteArray), j < k → ns[j]? = some x → x ≠ s) (fun k => ⟨[(0, .dat false 1 (strDs ns)), (1, sv s), (5, iv (k : Int))], []⟩) (⟨by omega, fun j x hj => absurd hj (by omega)⟩) ?_ (fun k hk hp => ?_)
  · exact sub_re (SubT.cons (lk_eq rfl (by first | rfl | simp)) (SubT.cons (lk_eq rfl (by first | rfl | simp)) (SubT.cons (lk_eq rfl (by first | rfl | simp)) (SubT.nil)))) (SubO.nil) rfl rfl (noL' (noL hL) _)
  refine awp_seq ?_; refine awp_seq ?_; refine awp_region ?_; refine awps_stp0 rfl rfl (by decide) (stp_move (.inl rfl) rfl) ?_; refine awps_stp0 rfl rfl (by decide) (stp_move (.inl rfl) rfl) ?_; refine awps_stp0 rfl rfl (by decide) (stp_len_dat rfl sl_S_string rfl) ?_; refine awps_stp0 rfl rfl (by decide) (stp_binI rfl rfl rfl rfl) ?_; refine awps_nil ?_; refine thenQ_nil ?_; refine awp_cond rfl (fun c0 => ?_) (fun c0 => ?_)
  · try simp only [↓cqA, cqB] at c0
    obtain ⟨u, hu⟩ := get_of_lt (l := ns) (k := k) (by omega)
    refine awp_skip ?_; refine thenQ_nil ?_; refine awp_seq ?_; refine awp_block ?_; refine awp_seq ?_; refine awp_region ?_; refine awps_stp0 rfl rfl (by decide) (stp_move (.inl rfl) rfl) ?_; refine awps_stp0 rfl rfl (by decide) (stp_move (.inl rfl) rfl) ?_; refine awps_stp0 rfl rfl (by decide) (stp_indexAddr rfl sl_S_string rfl rfl (by omega) (strDs_get hu)) ?_; refine awps_stp0 rfl rfl (by decide) (stp_load_elp1 rfl tf_string rfl) ?_
    refine awps_stp0 rfl rfl (by decide) (stp_move (.inl rfl) rfl) ?_; refine awps_stp0 rfl rfl (by decide) (stp_binS rfl rfl rfl rfl) ?_; refine awps_nil ?_; refine thenQ_nil ?_; refine awp_cond rfl (fun c1 => ?_) (fun c1 => ?_)
    · try simp only [↓cqA, cqB] at c1
      refine awp_seq ?_; refine awp_region ?_; refine awps_stp0 rfl rfl (by decide) (stp_move (.inr rfl) rfl) ?_; refine awps_nil ?_; refine thenQ_nil ?_; refine awp_ret ?_; refine inQ_ret (thenQ_ret (thenQ_ret (inQ_ret (thenQ_ret (?_)))))
      -- leaf 0T1T
      refine ret0 (noL hL) (.inl rfl) (resAs_tmp rfl (resAs_nil)) ?_ ?_
      · rfl
      refine ⟨bool_w ?_, rfl⟩
      exact (List.any_eq_true.2 ⟨u, List.mem_of_getElem? hu, by simp [c1]⟩).symm
    try simp only [↓cqA, cqB] at c1
    refine awp_skip ?_; refine inQ_nil ?_; refine thenQ_nil ?_; refine awp_region ?_; refine awps_stp0 rfl rfl (by decide) (stp_move (.inl rfl) rfl) ?_; refine awps_stp0 rfl rfl (by decide) (stp_add rfl rfl rfl (by omega)) ?_; refine awps_stp0 rfl rfl (by decide) (stp_move (.inr rfl) rfl) ?_; refine awps_nil ?_; refine thenQ_nil ?_; refine ⟨?_, ?_, ?_⟩
    · skip
      omega
    · skip
      refine ⟨by omega, fun j y hj hy => ?_⟩
      by_cases hjk : j < k
      · exact hp.2 j y hjk hy
      · rw [show j = k by omega, hu] at hy; cases hy; exact c1
    exact sub_re (SubT.cons (lk_eq rfl (by first | rfl | simp)) (SubT.cons (lk_eq rfl (by first | rfl | simp)) (SubT.cons (lk_eq rfl (by first | rfl | simp)) (SubT.nil)))) (SubO.nil) rfl rfl (noL' (noL hL) _)
  try simp only [↓cqA, cqB] at c0
  refine awp_exit ?_; refine thenQ_exit (thenQ_exit (inQ_hit ?_)); refine thenQ_nil ?_; refine awp_seq ?_; refine awp_region ?_; refine awps_stp0 rfl rfl (by decide) (stp_move (.inr rfl) rfl) ?_; refine awps_nil ?_; refine thenQ_nil ?_; refine awp_ret ?_
  -- leaf 0F
  refine ret0 (noL hL) (.inl rfl) (resAs_tmp rfl (resAs_nil)) ?_ ?_
  · rfl
  refine ⟨bool_w ?_, rfl⟩; refine (List.any_eq_false.2 fun x hx => ?_).symm
  obtain ⟨j, hj⟩ := List.getElem?_of_mem hx
  have := hp.2 j x (by have := (List.getElem?_eq_some_iff.1 hj).1; omega) hj
  simp [this]
theorem rOnly_ok (d : Nat) (l : List Bd) (hl : l.length ≤ 1000000000) (hd : ∀ b ∈ l, dle d b.t) (hw : ∀ b ∈ l, b.wf) (ns : List ByteArray) (hn : ns.length ≤ 140737488351232) : PF 37 [bdA l, .dat false 1 (strDs ns)] (.dat true 5 (bdDs (l.filter (inN ns)))) := by
  have hlen := bdDs_length l
  refine AC_intro Tryz.func37 rfl Tryz.ntmps37 (Nat.le_of_ble_eq_true rfl) fun c hL hQ hDD => ?_; refine awp_seq ?_; refine awp_region ?_; refine awps_stp0 rfl rfl (by decide) (stp_move (.inr rfl) rfl) ?_; refine awps_nil ?_; refine thenQ_nil ?_; refine awp_seq ?_; refine awp_region ?_; refine awps_stp0 rfl rfl (by decide) (stp_move (.inr rfl) rfl) ?_; refine awps_nil ?_; refine thenQ_nil ?_; refine awp_seq ?_; refine awp_seq ?_; refine awp_region ?_; refine awps_stp0 rfl rfl (by decide) (stp_move (.inr rfl) rfl) ?_; refine awps_nil ?_; refine thenQ_nil ?_; refine awp_block ?_
  refine awp_while (l.length) (fun k => k ≤ l.length) (fun k => ⟨[(0, bdA l), (1, .dat false 1 (strDs ns)), (5, .row 5), (6, iv (k : Int))], [(5, .rowd 40 5 true (bdDs ((l.take k).filter (inN ns))))]⟩) (by omega) ?_ (fun k hk hp => ?_)
  · exact Sub.trans (sub_nil_row (t := 5) (l := 5) 40 5 true rfl rfl) (sub_re (SubT.cons (lk_eq rfl (by first | rfl | simp)) (SubT.cons (lk_eq rfl (by first | rfl | simp)) (SubT.cons (lk_eq rfl (by first | rfl | simp)) (SubT.cons (lk_eq rfl (by first | rfl | simp)) (SubT.nil))))) (SubO.cons (ok_eq rfl (by rfl)) (SubO.nil)) rfl rfl (noL' (noL hL) _))
  have hl2 : (bdDs ((l.take k).filter (inN ns))).length ≤ l.length := by rw [bdDs_length]; have := filter_take_le (inN ns) l k; omega
  refine awp_seq ?_; refine awp_seq ?_; refine awp_region ?_; refine awps_stp0 rfl rfl (by decide) (stp_move (.inl rfl) rfl) ?_; refine awps_stp0 rfl rfl (by decide) (stp_move (.inl rfl) rfl) ?_; refine awps_stp0 rfl rfl (by decide) (stp_len_dat rfl sl_S_api_Bind rfl) ?_; refine awps_stp0 rfl rfl (by decide) (stp_binI rfl rfl rfl rfl) ?_; refine awps_nil ?_; refine thenQ_nil ?_; refine awp_cond rfl (fun c0 => ?_) (fun c0 => ?_)
  · try simp only [↓cqA, cqB] at c0
    obtain ⟨u, hu⟩ := get_of_lt (l := l) (k := k) (by omega)
    have hum := List.mem_of_getElem? hu
    have hfs := filter_snoc (inN ns) hu
    refine awp_skip ?_; refine thenQ_nil ?_; refine awp_seq ?_; refine awp_block ?_; refine awp_seq ?_; refine awp_region ?_; refine awps_stp0 rfl rfl (by decide) (stp_move (.inl rfl) rfl) ?_; refine awps_stp0 rfl rfl (by decide) (stp_move (.inl rfl) rfl) ?_; refine awps_stp0 rfl rfl (by decide) (stp_move (.inl rfl) rfl) ?_; refine awps_stp0 rfl rfl (by decide) (stp_indexAddr rfl sl_S_api_Bind rfl rfl (by omega) (bdDs_get hu)) ?_; refine awps_stp0 rfl rfl (by decide) (stp_fieldAddr_elp rfl fo_api_Bind_0 rfl) ?_; refine awps_stp0 rfl rfl (by decide) (stp_load_elp1 rfl tf_string rfl) ?_
    refine awps_call (avs := [_, _]) true rfl rfl rfl (by decide) en_almagestref0_Has rfl rfl (Has_ok ns hn u.name) rfl rfl ?_; refine awps_nil ?_; refine thenQ_nil ?_; refine awp_cond rfl (fun c1 => ?_) (fun c1 => ?_)
    · try simp only [↓cqA, cqB] at c1
      have hfe : bdDs ((l.take (k + 1)).filter (inN ns)) = bdDs ((l.take k).filter (inN ns)) ++ [bdD u] := by have hin : inN ns u = true := c1; rw [hfs, if_pos hin, bdDs, bdDs, List.map_append]; rfl
      refine awp_region ?_; refine awps_stp0 rfl rfl (by decide) (stp_move (.inl rfl) rfl) ?_; refine awps_stp0 rfl rfl (by decide) (stp_move (.inl rfl) rfl) ?_; refine awps_stp0 rfl rfl (by decide) (stp_move (.inl rfl) rfl) ?_; refine awps_stp0 rfl rfl (by decide) (stp_indexAddr rfl sl_S_api_Bind rfl rfl (by omega) (bdDs_get hu)) ?_; refine awps_stp0 rfl rfl (by decide) (stp_load_elpa rfl tf_api_Bind rfl rfl) ?_
      refine awps_call (avs := [_]) true rfl rfl rfl (by decide) en_almagestref0_CopyBind rfl rfl (CopyBind_ok d u (hd u hum) (hw u hum)) rfl rfl ?_; refine awps_stp1 rfl rfl (by decide) (stp_buildSlice 26 rfl sl_S_api_Bind zv_api_Bind rfl rfl (by decide) (by decide) (by decide) rfl rfl rfl) rfl ?_; refine awps_u rfl rfl (by decide) (stpU_append1 27 ta_S_api_Bind rfl rfl rfl rfl rfl rfl rfl rfl (noL hL _) (by omega) rfl) rfl ?_
      refine awps_sub (sub_rename 27 5 (noL hL _) (noL hL _)) ?_; refine awps_stp0 rfl rfl (by decide) (stp_move (.inr rfl) rfl) ?_; refine awps_nil ?_; refine inQ_nil ?_; refine thenQ_nil ?_; refine awp_region ?_; refine awps_stp0 rfl rfl (by decide) (stp_move (.inl rfl) rfl) ?_; refine awps_stp0 rfl rfl (by decide) (stp_add rfl rfl rfl (by omega)) ?_; refine awps_stp0 rfl rfl (by decide) (stp_move (.inr rfl) rfl) ?_; refine awps_nil ?_; refine thenQ_nil ?_; refine ⟨?_, ?_, ?_⟩
      · skip
        omega
      · skip
        omega
      exact sub_re (SubT.cons (lk_eq rfl (by first | rfl | simp)) (SubT.cons (lk_eq rfl (by first | rfl | simp)) (SubT.cons (lk_eq rfl (by first | rfl | simp)) (SubT.cons (lk_eq rfl (by first | rfl | simp)) (SubT.nil))))) (SubO.cons (ok_eq rfl (by rw [hfe]; try rfl)) (SubO.nil)) rfl rfl (noL' (noL hL) _)
    try simp only [↓cqA, cqB] at c1
    have hfe : bdDs ((l.take (k + 1)).filter (inN ns)) = bdDs ((l.take k).filter (inN ns)) := by
      have : inN ns u = false := c1
      rw [hfs, if_neg (by simp [this]), List.append_nil]
    refine awp_skip ?_; refine inQ_nil ?_; refine thenQ_nil ?_; refine awp_region ?_; refine awps_stp0 rfl rfl (by decide) (stp_move (.inl rfl) rfl) ?_; refine awps_stp0 rfl rfl (by decide) (stp_add rfl rfl rfl (by omega)) ?_; refine awps_stp0 rfl rfl (by decide) (stp_move (.inr rfl) rfl) ?_; refine awps_nil ?_; refine thenQ_nil ?_; refine ⟨?_, ?_, ?_⟩
    · skip
      omega
    · skip
      omega
    exact sub_re (SubT.cons (lk_eq rfl (by first | rfl | simp)) (SubT.cons (lk_eq rfl (by first | rfl | simp)) (SubT.cons (lk_eq rfl (by first | rfl | simp)) (SubT.cons (lk_eq rfl (by first | rfl | simp)) (SubT.nil))))) (SubO.cons (ok_eq rfl (by rw [hfe]; try rfl)) (SubO.nil)) rfl rfl (noL' (noL hL) _)
  try simp only [↓cqA, cqB] at c0
  refine awp_exit ?_; refine thenQ_exit (thenQ_exit (inQ_hit ?_)); refine thenQ_nil ?_; refine awp_seq ?_; refine awp_sub (sub_freeze (l := 5) rfl (by decide) (noL hL _) rfl rfl) ?_; refine awp_region ?_; refine awps_stp0 rfl rfl (by decide) (stp_move (.inl rfl) rfl) ?_; refine awps_stp0 rfl rfl (by decide) (stp_move (.inr rfl) rfl) ?_; refine awps_nil ?_; refine thenQ_nil ?_; refine awp_ret ?_
  -- leaf 0F
  refine ret0 (noL hL) (.inl rfl) (resAs_tmp rfl (resAs_nil)) ?_ ?_
  · rfl
  exact ⟨by rw [List.take_of_length_le (by omega)]; rfl, rfl⟩
theorem stp_eq {P : Program} {c : Ctx} {N : Nat} {o : Oper} {σ : St} {need : List Nat} {v v' : AV} {new : List (Nat × Ob)} (h : Stp P c N o σ need v new) (e : v = v') : Stp P c N o σ need v' new := e ▸ h
theorem rJoin_ok (a b : List Bd) (ha : BOk a) (hb : BOk b) : PF 35 [bdA a, bdA b] (.tup [.dat true 5 (bdDs (bothL a b)), iv (bothE a b)]) := by
  have hlen := bdDs_length b
  have hla := bdDs_length a
  have hla2 := ha.len
  have hlb2 := hb.len
  refine AC_leP (Post := fun r O => (bothL a b = [] ∧ r = .tup [.imm (.slice none 0 0), iv (bothE a b)] ∨ r = .tup [.dat true 5 (bdDs (bothL a b)), iv (bothE a b)]) ∧ O = []) ?_ (fun r O' h => by
    obtain ⟨⟨h1, rfl⟩ | rfl, rfl⟩ := h
    · exact ⟨_, .tup (.cons (.nil (f := true) (k := 5)) (.cons .refl .nil)), by rw [h1]; rfl, rfl⟩
    · exact ⟨_, .refl, rfl, rfl⟩)
  refine AC_intro Tryz.func35 rfl Tryz.ntmps35 (Nat.le_of_ble_eq_true rfl) fun c hL hQ hDD => ?_; refine awp_seq ?_; refine awp_region ?_; refine awps_stp0 rfl rfl (by decide) (stp_move (.inr rfl) rfl) ?_; refine awps_stp0 rfl rfl (by decide) (stp_move (.inr rfl) rfl) ?_; refine awps_nil ?_; refine thenQ_nil ?_; refine awp_seq ?_; refine awp_region ?_
  refine awps_stp0 rfl rfl (by decide) (stp_move (.inl rfl) rfl) ?_; refine awps_u rfl rfl (by decide) (stpU_call (avs := [_]) true rfl en_almagestref0_CopyBinds rfl rfl (AC_rnE 3 77 (CopyBinds_ok 5 a (by omega) (fun x hx => may_dle (ha.el x hx).2) (fun x hx => (ha.el x hx).1))) (fun _ => rfl) rfl) rfl ?_; refine awps_stp0 rfl rfl (by decide) (stp_move (.inr rfl) rfl) ?_; refine awps_nil ?_
  refine thenQ_nil ?_; refine awp_seq ?_; refine awp_seq ?_; refine awp_sub (sub_freeze (l := 77) rfl (by decide) (noL hL _) rfl rfl) ?_; refine awp_region ?_; refine awps_stp0 rfl rfl (by decide) (stp_move (.inr rfl) rfl) ?_; refine awps_nil ?_; refine thenQ_nil ?_; refine awp_block ?_; refine awp_while (b.length) (fun k => k ≤ b.length ∧ ∀ (j : Nat) (u : Bd), j < k → b[j]? = some u → bothBad (bothX a (b.take j)) u = false) (fun k => ⟨[(1, bdA b), (6, .dat true 5 (bdDs (bothX a (b.take k)))), (7, iv (k : Int))], []⟩) (⟨by omega, fun j u hj => absurd hj (by omega)⟩) ?_ (fun k hk hp => ?_)
  · exact sub_re (SubT.cons (lk_eq rfl (by first | rfl | simp)) (SubT.cons (lk_eq rfl (by first | rfl | simp)) (SubT.cons (lk_eq rfl (by first | rfl | simp)) (SubT.nil)))) (SubO.nil) rfl rfl (noL' (noL hL) _)
  obtain ⟨⟨hr, hel⟩, hln⟩ := bothX_ok ⟨ha.ris, ha.el⟩ (b.take k) (fun u hu => hb.el u (List.mem_of_mem_take hu))
  have hln2 : (b.take k).length ≤ b.length := by simp; omega
  have hlx := bdDs_length (bothX a (b.take k))
  generalize hX : bothX a (b.take k) = X at *
  refine awp_seq ?_; refine awp_seq ?_; refine awp_region ?_; refine awps_stp0 rfl rfl (by decide) (stp_move (.inl rfl) rfl) ?_; refine awps_stp0 rfl rfl (by decide) (stp_move (.inl rfl) rfl) ?_; refine awps_stp0 rfl rfl (by decide) (stp_len_dat rfl sl_S_api_Bind rfl) ?_; refine awps_stp0 rfl rfl (by decide) (stp_binI rfl rfl rfl rfl) ?_; refine awps_nil ?_; refine thenQ_nil ?_; refine awp_cond rfl (fun c0 => ?_) (fun c0 => ?_)
  · try simp only [↓cqA, cqB] at c0
    obtain ⟨u, hu⟩ := get_of_lt (l := b) (k := k) (by omega)
    have hum := hb.el u (List.mem_of_getElem? hu)
    have hpl := posB_le X u.name
    have hpos := posB_spec u.name X
    have hXs : bothX a (b.take (k + 1)) = bothStep X u := by rw [take_snoc hu, bothX_snoc, hX]
    have hat := atB_has u.name X
    refine awp_skip ?_; refine thenQ_nil ?_; refine awp_seq ?_; refine awp_block ?_; refine awp_seq ?_; refine awp_region ?_; refine awps_stp0 rfl rfl (by decide) (stp_move (.inl rfl) rfl) ?_; refine awps_stp0 rfl rfl (by decide) (stp_move (.inl rfl) rfl) ?_; refine awps_stp0 rfl rfl (by decide) (stp_move (.inl rfl) rfl) ?_; refine awps_stp0 rfl rfl (by decide) (stp_indexAddr rfl sl_S_api_Bind rfl rfl (by omega) (bdDs_get hu)) ?_; refine awps_stp0 rfl rfl (by decide) (stp_fieldAddr_elp rfl fo_api_Bind_0 rfl) ?_; refine awps_stp0 rfl rfl (by decide) (stp_load_elp1 rfl tf_string rfl) ?_
    refine awps_call (avs := [_, _]) true rfl rfl rfl (by decide) en_almagestref1_At rfl rfl (At1_ok' X u.name (by omega)) rfl rfl ?_; refine awps_stp0 rfl rfl (by decide) (stp_move (.inr rfl) rfl) ?_; refine awps_nil ?_; refine thenQ_nil ?_; refine awp_seq ?_; refine awp_seq ?_; refine awp_region ?_; refine awps_stp0 rfl rfl (by decide) (stp_move (.inl rfl) rfl) ?_; refine awps_stp0 rfl rfl (by decide) (stp_binI rfl rfl rfl rfl) ?_; refine awps_nil ?_; refine thenQ_nil ?_; refine awp_cond rfl (fun c1 => ?_) (fun c1 => ?_)
    · try simp only [↓cqA, cqB] at c1
      have hh : hasB X u.name = true := hat.1 (by omega)
      obtain ⟨v, hv, hvn, hlk⟩ : ∃ x : Bd, X[(atB u.name X).toNat]? = some x ∧ x.name = u.name ∧ lookB X u.name = some x.t := by
        rcases atB_cases u.name X with ⟨h1, _⟩ | ⟨_, i, x, h2, h3, h4, h5⟩
        · rw [h1] at hh; cases hh
        · exact ⟨x, by rw [h2]; exact h3, h4, h5⟩
      have hvt : lookT X u.name = v.t := by rw [lookT, hlk]; rfl
      have hvm := hel v (List.mem_of_getElem? hv)
      have hlt := (List.getElem?_eq_some_iff.1 hv).1
      have hst : bothStep X u = X := by rw [bothStep, if_pos hh]
      have hcz := cmpT_zero 5 v.t u.t (may_dle hvm.2)
      refine awp_seq ?_; refine awp_seq ?_; refine awp_drawG 10 mixed rfl rfl rfl rfl ?_; refine MGo_c0 rfl (by decide) (.run rfl (stp_move (.inl rfl) rfl)) ?_; refine MGo_c0 rfl (by decide) (.run rfl (stp_move (.inl rfl) rfl)) ?_; refine MGo_c0 rfl (by decide) (.run rfl (stp_indexAddr rfl sl_S_api_Bind rfl rfl (by omega) (bdDs_get hv))) ?_; refine MGo_c0 rfl (by decide) (.run rfl (stp_fieldAddr_elp rfl fo_api_Bind_1 rfl)) ?_; refine MGo_c0 rfl (by decide) (.run rfl (stp_load_elpa rfl tf_api_Term rfl rfl)) ?_
      refine MGo_c0 rfl (by decide) (.run rfl (stp_move (.inl rfl) rfl)) ?_; refine MGo_c0 rfl (by decide) (.run rfl (stp_move (.inl rfl) rfl)) ?_; refine MGo_c0 rfl (by decide) (.run rfl (stp_indexAddr rfl sl_S_api_Bind rfl rfl (by omega) (bdDs_get hu))) ?_; refine MGo_c0 rfl (by decide) (.run rfl (stp_fieldAddr_elp rfl fo_api_Bind_1 rfl)) ?_; refine MGo_c0 rfl (by decide) (.run rfl (stp_load_elpa rfl tf_api_Term rfl rfl)) ?_
      refine MGo_nil ⟨rfl, rfl, ?_⟩; refine awps_call (avs := [_, _]) true rfl rfl rfl (by decide) en_almagestref0_EqTerm rfl rfl (EqTerm_ok 5 v.t u.t (may_dle hvm.2) hvm.1.2 hum.1.2) rfl rfl ?_; refine awps_stp0 rfl rfl (by decide) (stp_not rfl rfl) ?_; refine awps_nil ?_; refine thenQ_nil ?_; refine awp_cond rfl (fun c2 => ?_) (fun c2 => ?_)
      · try simp only [↓cqA, cqB] at c2
        refine awp_seq ?_; refine awp_region ?_; refine awps_stp0 rfl rfl (by decide) (stp_move (.inr rfl) rfl) ?_; refine awps_stp0 rfl rfl (by decide) (stp_move (.inr rfl) rfl) ?_; refine awps_nil ?_; refine thenQ_nil ?_; refine awp_ret ?_; refine thenQ_ret (thenQ_ret (inQ_ret (thenQ_ret (thenQ_ret (inQ_ret (thenQ_ret (?_)))))))
        -- leaf 0T1T2T
        refine ret0 (noL hL) (.inl rfl) (resAs_tmp rfl (resAs_tmp rfl (resAs_nil))) ?_ ?_
        · rfl
        have hbk : bothOk a b = false := by
          have hne : ¬ cmpT 5 v.t u.t = 0 := fun h => by have := hcz.1 h; simp [this] at c2
          rw [bothOk_take b a k hp.2, hX, drop_get hu, bothOk]
          have : bothBad X u = true := by simp [bothBad, hvt, hh, hne]
          rw [this]; rfl
        exact ⟨.inl ⟨by rw [bothL, if_neg (by simp [hbk])], by rw [bothE, if_neg (by simp [hbk])]; rfl⟩, rfl⟩
      try simp only [↓cqA, cqB] at c2
      have hbad : bothBad X u = false := by
        have h1 : eqT 5 v.t u.t = true := by simpa using c2
        simp [bothBad, hvt, hcz.2 h1]
      refine awp_skip ?_; refine thenQ_nil ?_; refine awp_exit ?_; refine thenQ_exit (inQ_hit ?_); refine thenQ_nil ?_; refine awp_region ?_; refine awps_stp0 rfl rfl (by decide) (stp_move (.inl rfl) rfl) ?_; refine awps_stp0 rfl rfl (by decide) (stp_add rfl rfl rfl (by omega)) ?_; refine awps_stp0 rfl rfl (by decide) (stp_move (.inr rfl) rfl) ?_; refine awps_nil ?_; refine thenQ_nil ?_; refine ⟨?_, ?_, ?_⟩
      · skip
        omega
      · skip
        refine ⟨by omega, fun j w hj hw => ?_⟩
        by_cases hjk : j < k
        · exact hp.2 j w hjk hw
        · rw [show j = k by omega] at hw ⊢
          rw [hu] at hw; cases hw
          rw [hX]; exact hbad
      exact sub_re (SubT.cons (lk_eq rfl (by first | rfl | simp)) (SubT.cons (lk_eq rfl (by rw [hXs, hst]; try (rw [← hsp]; exact congrArg (AV.dat true 5) (show bdDs (X.take s) ++ [bdD u] ++ bdDs (X.drop s) = bdDs (ins X s u) by simp [ins, bdDs])))) (SubT.cons (lk_eq rfl (by first | rfl | simp)) (SubT.nil)))) (SubO.nil) rfl rfl (noL' (noL hL) _)
    try simp only [↓cqA, cqB] at c1
    have hh : hasB X u.name = false := by
      cases hc : hasB X u.name with
      | false => rfl
      | true => have := hat.2 hc; omega
    have hbad : bothBad X u = false := by simp [bothBad, hh]
    have hst : bothStep X u = ins X (posB X u.name) u := by rw [bothStep, if_neg (by simp [hh])]
    refine awp_skip ?_; refine thenQ_nil ?_; refine awp_seq ?_; refine awp_region ?_; refine awps_stp0 rfl rfl (by decide) (stp_move (.inr rfl) rfl) ?_; refine awps_nil ?_; refine thenQ_nil ?_; refine awp_seq ?_; refine awp_block ?_; refine awp_while (posB X u.name) (fun s => s ≤ posB X u.name) (fun s => ⟨[(1, bdA b), (6, .dat true 5 (bdDs X)), (7, iv (k : Int)), (8, iv (s : Int))], []⟩) (by omega) ?_ (fun s hs hps => ?_)
    · exact sub_re (SubT.cons (lk_eq rfl (by first | rfl | simp)) (SubT.cons (lk_eq rfl (by first | rfl | simp)) (SubT.cons (lk_eq rfl (by first | rfl | simp)) (SubT.cons (lk_eq rfl (by first | rfl | simp)) (SubT.nil))))) (SubO.nil) rfl rfl (noL' (noL hL) _)
    refine awp_seq ?_; refine awp_seq ?_
    rcases Bool.eq_false_or_eq_true (decide ((s : Int) < ((bdDs X).length : Int))) with l41 | l41
    · have m41 := l41
      try simp only [↓cqA, cqB] at m41
      obtain ⟨v, hv⟩ := get_of_lt (l := X) (k := s) (by omega)
      have hpt := fun h => hpos.1 s v h hv
      refine awp_drawG 15 mixed rfl rfl rfl rfl ?_; refine MGo_c0 rfl (by decide) (.run rfl (stp_move (.inl rfl) rfl)) ?_; refine MGo_c0 rfl (by decide) (.run rfl (stp_move (.inl rfl) rfl)) ?_; refine MGo_c0 rfl (by decide) (.run rfl (stp_len_dat rfl sl_S_api_Bind rfl)) ?_
      refine MGo_c0 rfl (by decide) (.run rfl (stp_binI (r := .bool true) rfl rfl rfl (congrArg (fun b => some (Value.bool b)) l41))) ?_; refine MGo_c0 rfl (by decide) (.run rfl (stp_move (.inl rfl) rfl)) ?_; refine MGo_c0 rfl (by decide) (.want rfl rfl rfl (by decide) (stp_move (.inl rfl) rfl)) ?_; refine MGo_c0 rfl (by decide) (.want rfl rfl rfl (by decide) (stp_move (.inl rfl) rfl)) ?_; refine MGo_c0 rfl (by decide) (.want rfl rfl rfl (by decide) (stp_indexAddr rfl sl_S_api_Bind rfl rfl (by omega) (bdDs_get hv))) ?_
      refine MGo_c0 rfl (by decide) (.want rfl rfl rfl (by decide) (stp_fieldAddr_elp rfl fo_api_Bind_0 rfl)) ?_; refine MGo_c0 rfl (by decide) (.want rfl rfl rfl (by decide) (stp_load_elp1 rfl tf_string rfl)) ?_; refine MGo_c0 rfl (by decide) (.want rfl rfl rfl (by decide) (stp_move (.inl rfl) rfl)) ?_; refine MGo_c0 rfl (by decide) (.want rfl rfl rfl (by decide) (stp_move (.inl rfl) rfl)) ?_; refine MGo_c0 rfl (by decide) (.want rfl rfl rfl (by decide) (stp_indexAddr rfl sl_S_api_Bind rfl rfl (by omega) (bdDs_get hu))) ?_
      refine MGo_c0 rfl (by decide) (.want rfl rfl rfl (by decide) (stp_fieldAddr_elp rfl fo_api_Bind_0 rfl)) ?_; refine MGo_c0 rfl (by decide) (.want rfl rfl rfl (by decide) (stp_load_elp1 rfl tf_string rfl)) ?_; refine MGo_nil ⟨rfl, rfl, ?_⟩; refine awps_g0 rfl rfl rfl (by decide) rfl (by decide) (stp_binS rfl rfl rfl rfl) ?_; refine awps_stp0 rfl rfl (by decide) (stp_pick rfl rfl rfl) ?_; refine awps_nil ?_; refine thenQ_nil ?_; refine awp_cond rfl (fun c3 => ?_) (fun c3 => ?_)
      · try simp only [↓cqA, cqB] at c3
        have hsp : s < posB X u.name := by
          rcases Nat.lt_or_ge s (posB X u.name) with h | h
          · exact h
          · have h2 : posB X u.name = s := by omega
            have h3 := hpos.2 v (by rw [h2]; exact hv)
            rw [show ltS v.name u.name = true from c3] at h3; cases h3
        refine awp_skip ?_; refine thenQ_nil ?_; refine awp_block ?_; refine awp_region ?_; refine awps_stp0 rfl rfl (by decide) (stp_move (.inl rfl) rfl) ?_; refine awps_stp0 rfl rfl (by decide) (stp_add rfl rfl rfl (by omega)) ?_; refine awps_stp0 rfl rfl (by decide) (stp_move (.inr rfl) rfl) ?_; refine awps_nil ?_; refine inQ_nil ?_; refine thenQ_nil ?_; refine ⟨?_, ?_, ?_⟩
        · skip
          omega
        · skip
          omega
        exact sub_re (SubT.cons (lk_eq rfl (by first | rfl | simp)) (SubT.cons (lk_eq rfl (by first | rfl | simp)) (SubT.cons (lk_eq rfl (by first | rfl | simp)) (SubT.cons (lk_eq rfl (by first | rfl | simp)) (SubT.nil))))) (SubO.nil) rfl rfl (noL' (noL hL) _)
      try simp only [↓cqA, cqB] at c3
      have hsp : s = posB X u.name := by
        rcases Nat.lt_or_ge s (posB X u.name) with h | h
        · have h3 := hpt h
          rw [show ltS v.name u.name = false from c3] at h3; cases h3
        · omega
      refine awp_exit ?_; refine thenQ_exit (thenQ_exit (inQ_hit ?_)); refine thenQ_nil ?_
      have htl : (bdDs (X.take s)).length = s := by rw [bdDs_length]; simp; omega
      have hdl : (bdDs (X.drop s)).length ≤ X.length := by rw [bdDs_length]; simp
      refine awp_drawG 14 mixed rfl rfl rfl rfl ?_; refine MGo_c0 rfl (by decide) (.run rfl (stp_move (.inl rfl) rfl)) ?_; refine MGo_c0 rfl (by decide) (.run rfl (stp_move (.inl rfl) rfl)) ?_; refine MGo_c0 rfl (by decide) (.run rfl (stp_eq (v' := .dat true 5 (bdDs (X.take s))) (stp_sldH rfl sl_S_api_Bind rfl rfl (by omega) (by omega)) (by simp [bdDs]))) ?_
      refine MGo_u rfl rfl (by decide) (stpU_call (avs := [_]) true rfl en_almagestref0_CopyBinds rfl rfl (AC_rnE 3 77 (CopyBinds_ok 5 (X.take s) (by simp; omega) (fun x hx => may_dle (hel x (List.mem_of_mem_take hx)).2) (fun x hx => (hel x (List.mem_of_mem_take hx)).1))) (fun _ => rfl) rfl) ?_; refine MGo_c0 rfl (by decide) (.run rfl (stp_move (.inl rfl) rfl)) ?_; refine MGo_c0 rfl (by decide) (.run rfl (stp_move (.inl rfl) rfl)) ?_; refine MGo_c0 rfl (by decide) (.run rfl (stp_indexAddr rfl sl_S_api_Bind rfl rfl (by omega) (bdDs_get hu))) ?_
      refine MGo_c0 rfl (by decide) (.run rfl (stp_load_elpa rfl tf_api_Bind rfl rfl)) ?_; refine MGo_c0 rfl (by decide) (.run rfl (stp_call (avs := [_]) true rfl en_almagestref0_CopyBind rfl rfl (CopyBind_ok 5 u (may_dle hum.2) hum.1) (fun _ => rfl) rfl)) ?_; refine MGo_c1 rfl (by decide) (.run rfl (stp_buildSlice 66 rfl sl_S_api_Bind zv_api_Bind rfl rfl (by decide) (by decide) (by decide) rfl rfl rfl)) ?_; refine MGo_u rfl rfl (by decide) (stpU_append1 67 ta_S_api_Bind rfl rfl rfl rfl rfl rfl rfl rfl (noL hL _) (by rw [htl]; omega) rfl) ?_
      refine MGo_c0 rfl (by decide) (.run rfl (stp_move (.inl rfl) rfl)) ?_; refine MGo_c0 rfl (by decide) (.run rfl (stp_move (.inl rfl) rfl)) ?_; refine MGo_c0 rfl (by decide) (.run rfl (stp_eq (v' := .dat true 5 (bdDs (X.drop s))) (stp_sldL rfl sl_S_api_Bind rfl rfl (by omega) (by omega)) (by simp [bdDs]))) ?_; refine MGo_nil ⟨rfl, rfl, ?_⟩; refine awps_u rfl rfl (by decide) (stpU_appendd 71 ta_S_api_Bind rfl rfl rfl rfl rfl (noL hL _) (fun d hd => by obtain ⟨x, _, rfl⟩ := List.mem_map.1 hd; rfl) (by simp only [List.length_append, List.length_singleton, htl]; omega) rfl) rfl ?_
      refine awps_sub (sub_freeze (l := 71) rfl (by decide) (noL hL _) rfl rfl) ?_; refine awps_stp0 rfl rfl (by decide) (stp_move (.inr rfl) rfl) ?_; refine awps_nil ?_; refine inQ_nil ?_; refine thenQ_nil ?_; refine awp_region ?_; refine awps_stp0 rfl rfl (by decide) (stp_move (.inl rfl) rfl) ?_; refine awps_stp0 rfl rfl (by decide) (stp_add rfl rfl rfl (by omega)) ?_; refine awps_stp0 rfl rfl (by decide) (stp_move (.inr rfl) rfl) ?_; refine awps_nil ?_; refine thenQ_nil ?_; refine ⟨?_, ?_, ?_⟩
      · skip
        omega
      · skip
        refine ⟨by omega, fun j w hj hw => ?_⟩
        by_cases hjk : j < k
        · exact hp.2 j w hjk hw
        · rw [show j = k by omega] at hw ⊢
          rw [hu] at hw; cases hw
          rw [hX]; exact hbad
      exact sub_re (SubT.cons (lk_eq rfl (by first | rfl | simp)) (SubT.cons (lk_eq rfl (by rw [hXs, hst]; try (rw [← hsp]; exact congrArg (AV.dat true 5) (show bdDs (X.take s) ++ [bdD u] ++ bdDs (X.drop s) = bdDs (ins X s u) by simp [ins, bdDs])))) (SubT.cons (lk_eq rfl (by first | rfl | simp)) (SubT.nil)))) (SubO.nil) rfl rfl (noL' (noL hL) _)
    have m41 := l41
    try simp only [↓cqA, cqB] at m41
    have hsp : s = posB X u.name := by omega
    refine awp_drawG 15 mixed rfl rfl rfl rfl ?_; refine MGo_c0 rfl (by decide) (.run rfl (stp_move (.inl rfl) rfl)) ?_; refine MGo_c0 rfl (by decide) (.run rfl (stp_move (.inl rfl) rfl)) ?_; refine MGo_c0 rfl (by decide) (.run rfl (stp_len_dat rfl sl_S_api_Bind rfl)) ?_
    refine MGo_c0 rfl (by decide) (.run rfl (stp_binI (r := .bool false) rfl rfl rfl (congrArg (fun b => some (Value.bool b)) l41))) ?_; refine MGo_c0 rfl (by decide) (.run rfl (stp_move (.inl rfl) rfl)) ?_; refine MGo_c0 rfl (by decide) (.skip rfl rfl rfl (by decide) (by decide)) ?_; refine MGo_c0 rfl (by decide) (.skip rfl rfl rfl (by decide) (by decide)) ?_
    refine MGo_c0 rfl (by decide) (.skip rfl rfl rfl (by decide) (by decide)) ?_; refine MGo_c0 rfl (by decide) (.skip rfl rfl rfl (by decide) (by decide)) ?_; refine MGo_c0 rfl (by decide) (.skip rfl rfl rfl (by decide) (by decide)) ?_; refine MGo_c0 rfl (by decide) (.skip rfl rfl rfl (by decide) (by decide)) ?_; refine MGo_c0 rfl (by decide) (.skip rfl rfl rfl (by decide) (by decide)) ?_
    refine MGo_c0 rfl (by decide) (.skip rfl rfl rfl (by decide) (by decide)) ?_; refine MGo_c0 rfl (by decide) (.skip rfl rfl rfl (by decide) (by decide)) ?_; refine MGo_c0 rfl (by decide) (.skip rfl rfl rfl (by decide) (by decide)) ?_; refine MGo_nil ⟨rfl, rfl, ?_⟩; refine awps_gs rfl rfl rfl rfl (by decide) rfl (by decide) ?_; refine awps_stp0 rfl rfl (by decide) (stp_pick rfl rfl rfl) ?_; refine awps_nil ?_; refine thenQ_nil ?_; refine awp_condF rfl ?_; refine awp_exit ?_; refine thenQ_exit (thenQ_exit (inQ_hit ?_)); refine thenQ_nil ?_
    have htl : (bdDs (X.take s)).length = s := by rw [bdDs_length]; simp; omega
    have hdl : (bdDs (X.drop s)).length ≤ X.length := by rw [bdDs_length]; simp
    refine awp_drawG 14 mixed rfl rfl rfl rfl ?_; refine MGo_c0 rfl (by decide) (.run rfl (stp_move (.inl rfl) rfl)) ?_; refine MGo_c0 rfl (by decide) (.run rfl (stp_move (.inl rfl) rfl)) ?_; refine MGo_c0 rfl (by decide) (.run rfl (stp_eq (v' := .dat true 5 (bdDs (X.take s))) (stp_sldH rfl sl_S_api_Bind rfl rfl (by omega) (by omega)) (by simp [bdDs]))) ?_
    refine MGo_u rfl rfl (by decide) (stpU_call (avs := [_]) true rfl en_almagestref0_CopyBinds rfl rfl (AC_rnE 3 77 (CopyBinds_ok 5 (X.take s) (by simp; omega) (fun x hx => may_dle (hel x (List.mem_of_mem_take hx)).2) (fun x hx => (hel x (List.mem_of_mem_take hx)).1))) (fun _ => rfl) rfl) ?_; refine MGo_c0 rfl (by decide) (.run rfl (stp_move (.inl rfl) rfl)) ?_; refine MGo_c0 rfl (by decide) (.run rfl (stp_move (.inl rfl) rfl)) ?_; refine MGo_c0 rfl (by decide) (.run rfl (stp_indexAddr rfl sl_S_api_Bind rfl rfl (by omega) (bdDs_get hu))) ?_
    refine MGo_c0 rfl (by decide) (.run rfl (stp_load_elpa rfl tf_api_Bind rfl rfl)) ?_; refine MGo_c0 rfl (by decide) (.run rfl (stp_call (avs := [_]) true rfl en_almagestref0_CopyBind rfl rfl (CopyBind_ok 5 u (may_dle hum.2) hum.1) (fun _ => rfl) rfl)) ?_; refine MGo_c1 rfl (by decide) (.run rfl (stp_buildSlice 66 rfl sl_S_api_Bind zv_api_Bind rfl rfl (by decide) (by decide) (by decide) rfl rfl rfl)) ?_; refine MGo_u rfl rfl (by decide) (stpU_append1 67 ta_S_api_Bind rfl rfl rfl rfl rfl rfl rfl rfl (noL hL _) (by rw [htl]; omega) rfl) ?_
    refine MGo_c0 rfl (by decide) (.run rfl (stp_move (.inl rfl) rfl)) ?_; refine MGo_c0 rfl (by decide) (.run rfl (stp_move (.inl rfl) rfl)) ?_; refine MGo_c0 rfl (by decide) (.run rfl (stp_eq (v' := .dat true 5 (bdDs (X.drop s))) (stp_sldL rfl sl_S_api_Bind rfl rfl (by omega) (by omega)) (by simp [bdDs]))) ?_; refine MGo_nil ⟨rfl, rfl, ?_⟩; refine awps_u rfl rfl (by decide) (stpU_appendd 71 ta_S_api_Bind rfl rfl rfl rfl rfl (noL hL _) (fun d hd => by obtain ⟨x, _, rfl⟩ := List.mem_map.1 hd; rfl) (by simp only [List.length_append, List.length_singleton, htl]; omega) rfl) rfl ?_
    refine awps_sub (sub_freeze (l := 71) rfl (by decide) (noL hL _) rfl rfl) ?_; refine awps_stp0 rfl rfl (by decide) (stp_move (.inr rfl) rfl) ?_; refine awps_nil ?_; refine inQ_nil ?_; refine thenQ_nil ?_; refine awp_region ?_; refine awps_stp0 rfl rfl (by decide) (stp_move (.inl rfl) rfl) ?_; refine awps_stp0 rfl rfl (by decide) (stp_add rfl rfl rfl (by omega)) ?_; refine awps_stp0 rfl rfl (by decide) (stp_move (.inr rfl) rfl) ?_; refine awps_nil ?_; refine thenQ_nil ?_; refine ⟨?_, ?_, ?_⟩
    · skip
      omega
    · skip
      refine ⟨by omega, fun j w hj hw => ?_⟩
      by_cases hjk : j < k
      · exact hp.2 j w hjk hw
      · rw [show j = k by omega] at hw ⊢
        rw [hu] at hw; cases hw
        rw [hX]; exact hbad
    exact sub_re (SubT.cons (lk_eq rfl (by first | rfl | simp)) (SubT.cons (lk_eq rfl (by rw [hXs, hst]; try (rw [← hsp]; exact congrArg (AV.dat true 5) (show bdDs (X.take s) ++ [bdD u] ++ bdDs (X.drop s) = bdDs (ins X s u) by simp [ins, bdDs])))) (SubT.cons (lk_eq rfl (by first | rfl | simp)) (SubT.nil)))) (SubO.nil) rfl rfl (noL' (noL hL) _)
  try simp only [↓cqA, cqB] at c0
  have hk2 : b.take k = b := List.take_of_length_le (by omega)
  rw [hk2] at hX
  have hgo : bothOk a b = true := by rw [bothOk_take b a k hp.2, List.drop_eq_nil_of_le (by omega)]; rfl
  refine awp_exit ?_; refine thenQ_exit (thenQ_exit (inQ_hit ?_)); refine thenQ_nil ?_; refine awp_seq ?_; refine awp_seq ?_; refine awp_region ?_; refine awps_stp0 rfl rfl (by decide) (stp_move (.inl rfl) rfl) ?_; refine awps_stp0 rfl rfl (by decide) (stp_len_dat rfl sl_S_api_Bind rfl) ?_; refine awps_stp0 rfl rfl (by decide) (stp_binI rfl rfl rfl rfl) ?_; refine awps_nil ?_; refine thenQ_nil ?_; refine awp_cond rfl (fun c4 => ?_) (fun c4 => ?_)
  · try simp only [↓cqA, cqB] at c4
    refine awp_seq ?_; refine awp_region ?_; refine awps_stp0 rfl rfl (by decide) (stp_move (.inr rfl) rfl) ?_; refine awps_stp0 rfl rfl (by decide) (stp_move (.inr rfl) rfl) ?_; refine awps_nil ?_; refine thenQ_nil ?_; refine awp_ret ?_; refine thenQ_ret (?_)
    -- leaf 0F4T
    refine ret0 (noL hL) (.inl rfl) (resAs_tmp rfl (resAs_tmp rfl (resAs_nil))) ?_ ?_
    · rfl
    exact ⟨.inl ⟨by rw [bothL, if_neg (by rw [hX]; omega)], by rw [bothE, if_pos hgo, if_neg (by rw [hX]; omega)]; rfl⟩, rfl⟩
  try simp only [↓cqA, cqB] at c4
  refine awp_skip ?_; refine thenQ_nil ?_; refine awp_seq ?_; refine awp_region ?_; refine awps_stp0 rfl rfl (by decide) (stp_move (.inl rfl) rfl) ?_; refine awps_stp0 rfl rfl (by decide) (stp_move (.inr rfl) rfl) ?_; refine awps_stp0 rfl rfl (by decide) (stp_move (.inr rfl) rfl) ?_; refine awps_nil ?_; refine thenQ_nil ?_; refine awp_ret ?_
  -- leaf 0F4F
  refine ret0 (noL hL) (.inl rfl) (resAs_tmp rfl (resAs_tmp rfl (resAs_nil))) ?_ ?_
  · rfl
  exact ⟨.inr (by rw [bothL, bothE, if_pos ⟨hgo, by rw [hX]; omega⟩, if_pos hgo, if_pos (by rw [hX]; omega), hX]; rfl), rfl⟩
end Go.Proofs.YtdecgkhdbfgldaaGreat

set_option linter.unusedVariables false
set_option linter.unusedSimpArgs false
set_option maxRecDepth 8000
namespace Go.Proofs.YtdecgkhdbfgldaaGreat
open Go
theorem spv_int {k : IntKind} {a : Int} {v : Value} (h : SpV (.int k a) v) : ∃ b, v = .int k b := by
  rcases h with rfl | ⟨_, _, _, h, rfl⟩ | ⟨_, _, h, _⟩ | ⟨_, _, _, h, _⟩
  · exact ⟨a, rfl⟩
  · cases h; exact ⟨_, rfl⟩
  · cases h
  · cases h
theorem spv_str {a : ByteArray} {v : Value} (h : SpV (.string a) v) : ∃ b, v = .string b := by
  rcases h with rfl | ⟨_, _, _, h, _⟩ | ⟨_, _, h, rfl⟩ | ⟨_, _, _, h, _⟩
  · exact ⟨a, rfl⟩
  · cases h
  · cases h; exact ⟨_, rfl⟩
  · cases h
def dlb : Nat → Tm → Prop
  | 0, _ => False
  | d + 1, t => t.args.length ≤ 140737488351232 ∧ ∀ u, u ∈ t.args → dlb d u
theorem dlb_of : ∀ (d : Nat) (t : Tm), dle d t → t.wf → dlb d t
  | 0, t, h, _ => h
  | d + 1, t, h, hw => ⟨by have := hw.2.2.2.1; omega, fun u hu => dlb_of d u (h u hu) (Tm.wfs_mem hw.2.2.2.2 hu)⟩
mutual
theorem shTm : ∀ (t : Tm) (ds' : List D), ShCs (tmD0 t) ds' → ∃ t', ds' = tmD t' ∧ ∀ d, dlb d t → dlb d t'
  | ⟨k, nm, n, xs⟩, ds', h => by
    simp only [tmD0, ShCs, ShD] at h
    obtain ⟨_, _, rfl, ⟨v1, rfl, h1⟩, _, _, rfl, ⟨v2, rfl, h2⟩, _, _, rfl, ⟨v3, rfl, h3⟩, _, _, rfl, ⟨es', rfl, h4⟩, rfl⟩ := h
    obtain ⟨k', rfl⟩ := spv_int h1
    obtain ⟨s', rfl⟩ := spv_str h2
    obtain ⟨n', rfl⟩ := spv_int h3
    rcases h4 with rfl | h4
    · refine ⟨⟨k', s', n', []⟩, rfl, fun d hd => ?_⟩
      cases d with
      | zero => exact hd
      | succ d => exact ⟨Nat.zero_le _, fun u hu => by cases hu⟩
    · obtain ⟨xs', rfl, hl', hd'⟩ := shTms xs es' h4
      refine ⟨⟨k', s', n', xs'⟩, rfl, fun d hd => ?_⟩
      cases d with
      | zero => exact hd
      | succ d => exact ⟨by rw [hl']; exact hd.1, hd' d hd.2⟩
theorem shTms : ∀ (xs : List Tm) (es' : List (List D)), ShEs (tmDs xs) es' → ∃ xs', es' = tmDs xs' ∧ xs'.length = xs.length ∧ ∀ d, (∀ u ∈ xs, dlb d u) → ∀ u ∈ xs', dlb d u
  | [], es', h => by simp only [tmDs, ShEs] at h; subst h; exact ⟨[], rfl, rfl, fun d _ u hu => by cases hu⟩
  | t :: ts, es', h => by
    simp only [tmDs, ShEs] at h
    obtain ⟨e', es'', rfl, h1, h2⟩ := h
    obtain ⟨t', rfl, h3⟩ := shTm t e' h1
    obtain ⟨ts', rfl, h4, h5⟩ := shTms ts es'' h2
    refine ⟨t' :: ts', by simp only [tmDs, tmD0_eq], by simp [h4], fun d hd u hu => ?_⟩
    rcases List.mem_cons.1 hu with rfl | hu
    · exact h3 d (hd t (by simp))
    · exact h5 d (fun u hu => hd u (by simp [hu])) u hu
end
theorem shTmD {t : Tm} {ds' : List D} (h : ShCs (tmD t) ds') : ∃ t', ds' = tmD t' ∧ ∀ d, dlb d t → dlb d t' := shTm t ds' (by rw [tmD0_eq]; exact h)
theorem shBds : ∀ (l : List Bd) (es' : List (List D)), ShEs (bdDs l) es' → ∃ l', es' = bdDs l' ∧ l'.length = l.length ∧ ∀ d, (∀ b ∈ l, dlb d b.t) → ∀ b ∈ l', dlb d b.t
  | [], es', h => by simp only [bdDs, List.map_nil, ShEs] at h; subst h; exact ⟨[], rfl, rfl, fun d _ u hu => by cases hu⟩
  | b :: l, es', h => by
    simp only [bdDs, List.map_cons, bdD, ShEs, ShCs, ShD] at h
    obtain ⟨e', es'', rfl, ⟨_, _, rfl, ⟨v, rfl, h0⟩, h1⟩, h2⟩ := h
    obtain ⟨s', rfl⟩ := spv_str h0
    obtain ⟨t', rfl, h3⟩ := shTmD h1
    obtain ⟨l', rfl, h4, h5⟩ := shBds l es'' h2
    refine ⟨⟨s', t'⟩ :: l', rfl, by simp [h4], fun d hd u hu => ?_⟩
    rcases List.mem_cons.1 hu with rfl | hu
    · exact h3 d (hd b (by simp))
    · exact h5 d (fun u hu => hd u (by simp [hu])) u hu
theorem sh_tmbox {t : Tm} {o' : Ob} (h : ShOb (.box (lift true (tmD t))) o') : ∃ t', o' = .box (lift true (tmD t')) ∧ t'.args.length = t.args.length ∧ ∀ d, dlb d t → dlb d t' := by
  simp only [ShOb, tmD, lift, List.map_cons, List.map_nil, D.av, ShL, ShV, if_true] at h
  obtain ⟨cs', rfl, _, _, rfl, rfl, _, _, rfl, rfl, _, _, rfl, rfl, _, _, rfl, ⟨es', rfl, h⟩, rfl⟩ := h
  obtain ⟨xs', rfl, h1, h2⟩ := shTms t.args es' h
  refine ⟨⟨t.kind, t.name, t.n, xs'⟩, rfl, h1, fun d hd => ?_⟩
  cases d with
  | zero => exact hd
  | succ d => exact ⟨by rw [h1]; exact hd.1, h2 d hd.2⟩
theorem shO_one {l : Nat} {o : Ob} {O' : List (Nat × Ob)} (h : ShO [(l, o)] O') : ∃ o', O' = [(l, o')] ∧ ShOb o o' := by
  simp only [ShO] at h
  obtain ⟨o', O'', rfl, h, rfl⟩ := h
  exact ⟨o', rfl, h⟩
theorem shL_false : ∀ (ds : List D) (cs' : List AV), ShL (lift false ds) cs' → cs' = lift false ds
  | [], cs', h => by simpa [lift, ShL] using h
  | d :: ds, cs', h => by
    simp only [lift, List.map_cons, ShL] at h
    obtain ⟨v', vs', rfl, h1, h2⟩ := h
    have ih := shL_false ds vs' h2
    have : v' = D.av false d := by
      cases d with
      | imm v => simpa [D.av, ShV] using h1
      | sl k es =>
        simp only [D.av, ShV] at h1
        obtain ⟨es', rfl, h1⟩ := h1
        have : es' = es := by simpa using h1
        rw [this]; rfl
    rw [this, ih]; rfl
theorem shO_box {l : Nat} {ds : List D} {O' : List (Nat × Ob)} (h : ShO [(l, .box (lift false ds))] O') : O' = [(l, .box (lift false ds))] := by
  obtain ⟨o', rfl, h2⟩ := shO_one h
  simp only [ShOb] at h2
  obtain ⟨cs', rfl, h3⟩ := h2
  rw [shL_false ds cs' h3]
theorem spoilTerm_ok : ∀ (d : Nat) (t : Tm), dlb d t → SPC Tryz.prog 97 (tmA true t)
  | 0, t, h => h.elim
  | d + 1, t, h => by
    have ih := fun u hu => spoilTerm_ok d u hu
    have hlt := h.1
    refine SPC_intro Tryz.func97 rfl Tryz.ntmps97 (Nat.le_of_ble_eq_true rfl) rfl fun c hL hQW hDD => ?_; refine awp_seq ?_; refine awp_region ?_; refine awps_stp1 rfl rfl (by decide) (stp_box 1 rfl rfl rfl) rfl ?_; refine awps_nil ?_; refine thenQ_nil ?_; refine awp_seq ?_; refine awp_region ?_; refine awps_stp0 rfl rfl (by decide) (stp_move (.inr rfl) rfl) ?_; refine awps_nil ?_
    refine thenQ_nil ?_; refine awp_block ?_; refine awp_whileE (α := Tm) (t.args.length) (fun k u => dlb (d + 1) u ∧ u.args.length = t.args.length ∧ k ≤ t.args.length) (fun k u => ⟨[(1, .ptr 1 0), (2, iv (k : Int))], [(1, .box (lift true (tmD u)))]⟩) (t) (⟨h, rfl, by omega⟩) ?_ (fun k u hk hp => ?_)
    · exact sub_re (SubT.cons (lk_eq rfl (by first | rfl | simp)) (SubT.cons (lk_eq rfl (by first | rfl | simp)) (SubT.nil))) (SubO.cons (ok_eq rfl (by rfl)) (SubO.nil)) rfl rfl (noL' (noL hL) _)
    have hlu := tmDs_length u.args
    refine awp_seq ?_; refine awp_seq ?_; refine awp_region ?_; refine awps_stp0 rfl rfl (by decide) (stp_move (.inl rfl) rfl) ?_; refine awps_stp0 rfl rfl (by decide) (stp_fieldAddr rfl fo_api_Term_3 rfl) ?_; refine awps_stp0 rfl rfl (by decide) (stp_load rfl tf_S_api_Term rfl rfl rfl rfl rfl) ?_; refine awps_stp0 rfl rfl (by decide) (stp_len_dat rfl sl_S_api_Term rfl) ?_; refine awps_stp0 rfl rfl (by decide) (stp_binI rfl rfl rfl rfl) ?_; refine awps_nil ?_; refine thenQ_nil ?_; refine awp_cond rfl (fun c0 => ?_) (fun c0 => ?_)
    · try simp only [↓cqA, cqB] at c0
      obtain ⟨x, hx⟩ := get_of_lt (l := u.args) (k := k) (by omega)
      have hxd : dlb d x := hp.1.2 x (List.mem_of_getElem? hx)
      refine awp_skip ?_; refine thenQ_nil ?_; refine awp_seq ?_; refine awp_block ?_; refine awp_seq ?_; refine awp_region ?_; refine awps_stp0 rfl rfl (by decide) (stp_fieldAddr rfl fo_api_Term_3 rfl) ?_; refine awps_stp0 rfl rfl (by decide) (stp_load rfl tf_S_api_Term rfl rfl rfl rfl rfl) ?_; refine awps_stp0 rfl rfl (by decide) (stp_move (.inl rfl) rfl) ?_; refine awps_stp0 rfl rfl (by decide) (stp_indexAddr rfl sl_S_api_Term rfl rfl (by omega) (tmDs_get hx)) ?_; refine awps_stp0 rfl rfl (by decide) (stp_load_elpa rfl tf_api_Term rfl rfl) ?_
      refine awps_sub (sub_re (T1 := [(14, tmA true x), (1, .ptr 1 0), (2, iv (k : Int))]) (O1 := [(1, .box (lift true (tmD u)))]) (SubT.cons rfl (SubT.cons rfl (SubT.cons rfl SubT.nil))) (SubO.cons rfl SubO.nil) rfl rfl (noL' (noL hL) _)) ?_; refine awps_spoil rfl rfl rfl (by decide) en_almagestlaw0_Term rfl rfl rfl rfl (ih x hxd) hQW (fun T' O' hT hO => ?_)
      simp only [ShT, ShV] at hT
      obtain ⟨_, _, rfl, _, _, _, rfl, rfl, _, _, rfl, rfl, rfl⟩ := hT
      obtain ⟨ob1, rfl, hO2⟩ := shO_one hO
      obtain ⟨u1, rfl, hu1, hud1⟩ := sh_tmbox hO2
      have hlu1 := tmDs_length u1.args
      obtain ⟨x1, hx1⟩ := get_of_lt (l := u1.args) (k := k) (by omega)
      refine awps_nil ?_; refine thenQ_nil ?_; refine awp_region ?_; refine awps_stp0 rfl rfl (by decide) (stp_fieldAddr rfl fo_api_Term_3 rfl) ?_; refine awps_stp0 rfl rfl (by decide) (stp_load rfl tf_S_api_Term rfl rfl rfl rfl rfl) ?_; refine awps_stp0 rfl rfl (by decide) (stp_move (.inl rfl) rfl) ?_; refine awps_stp0 rfl rfl (by decide) (stp_build rfl zv_api_Term rfl pl_api_Term rfl rfl) ?_; refine awps_stp0 rfl rfl (by decide) (stp_indexAddr rfl sl_S_api_Term rfl rfl (by omega) (tmDs_get hx1)) ?_
      refine awps_sub (sub_re (T1 := [(20, .elp true (tmD x1)), (19, .agg [iv (-9), sv ⟨#[]⟩, iv 0, .imm (.slice none 0 0)]), (1, .ptr 1 0), (2, iv (k : Int))]) (O1 := [(1, .box (lift true (tmD u1)))]) (SubT.cons rfl (SubT.cons rfl (SubT.cons rfl (SubT.cons rfl SubT.nil)))) (SubO.cons rfl SubO.nil) rfl rfl (noL' (noL hL) _)) ?_; refine awps_spoilstore rfl rfl rfl tf_api_Term rfl rfl rfl rfl (by decide) rfl hQW (fun T' O' hT hO => ?_)
      simp only [ShT, ShV] at hT
      obtain ⟨_, _, rfl, _, _, _, rfl, _, _, _, rfl, rfl, _, _, rfl, rfl, rfl⟩ := hT
      obtain ⟨ob1, rfl, hO2⟩ := shO_one hO
      obtain ⟨u2, rfl, hu2, hud2⟩ := sh_tmbox hO2
      refine awps_nil ?_; refine inQ_nil ?_; refine thenQ_nil ?_; refine awp_region ?_; refine awps_stp0 rfl rfl (by decide) (stp_move (.inl rfl) rfl) ?_; refine awps_stp0 rfl rfl (by decide) (stp_add rfl rfl rfl (by omega)) ?_; refine awps_stp0 rfl rfl (by decide) (stp_move (.inr rfl) rfl) ?_; refine awps_nil ?_; refine thenQ_nil ?_; refine ⟨?_, u2, ?_, ?_⟩
      · skip
        omega
      · skip
        exact ⟨hud2 _ (hud1 _ hp.1), by omega, by omega⟩
      exact sub_re (SubT.cons (lk_eq rfl (by first | rfl | simp)) (SubT.cons (lk_eq rfl (by first | rfl | simp)) (SubT.nil))) (SubO.cons (ok_eq rfl (by rfl)) (SubO.nil)) rfl rfl (noL' (noL hL) _)
    try simp only [↓cqA, cqB] at c0
    refine awp_exit ?_; refine thenQ_exit (thenQ_exit (inQ_hit ?_))
    -- leaf 0F
    refine ret0 (noL hL) (.inr rfl) (resAs_nil) ?_ ?_
    · rfl
    exact ⟨rfl, rfl⟩
theorem spoilBinds_ok (l : List Bd) (hd : ∀ b ∈ l, dlb 5 b.t) (hl : l.length ≤ 1000000) : SPC Tryz.prog 29 (.dat true 5 (bdDs l)) := by
  refine SPC_intro Tryz.func29 rfl Tryz.ntmps29 (Nat.le_of_ble_eq_true rfl) rfl fun c hL hQW hDD => ?_; refine awp_seq ?_; refine awp_region ?_; refine awps_stp0 rfl rfl (by decide) (stp_move (.inr rfl) rfl) ?_; refine awps_nil ?_; refine thenQ_nil ?_; refine awp_block ?_; refine awp_whileE (α := List Bd) (l.length) (fun k u => (∀ b ∈ u, dlb 5 b.t) ∧ u.length = l.length ∧ k ≤ l.length) (fun k u => ⟨[(0, .dat true 5 (bdDs u)), (2, iv (k : Int))], []⟩) (l) (⟨hd, rfl, by omega⟩) ?_ (fun k u hk hp => ?_)
  · exact sub_re (SubT.cons (lk_eq rfl (by first | rfl | simp)) (SubT.cons (lk_eq rfl (by first | rfl | simp)) (SubT.nil))) (SubO.nil) rfl rfl (noL' (noL hL) _)
  have hlu := bdDs_length u
  refine awp_seq ?_; refine awp_seq ?_; refine awp_region ?_; refine awps_stp0 rfl rfl (by decide) (stp_move (.inl rfl) rfl) ?_; refine awps_stp0 rfl rfl (by decide) (stp_move (.inl rfl) rfl) ?_; refine awps_stp0 rfl rfl (by decide) (stp_len_dat rfl sl_S_api_Bind rfl) ?_; refine awps_stp0 rfl rfl (by decide) (stp_binI rfl rfl rfl rfl) ?_; refine awps_nil ?_; refine thenQ_nil ?_; refine awp_cond rfl (fun c0 => ?_) (fun c0 => ?_)
  · try simp only [↓cqA, cqB] at c0
    obtain ⟨x, hx⟩ := get_of_lt (l := u) (k := k) (by omega)
    have hxd : dlb 5 x.t := hp.1 x (List.mem_of_getElem? hx)
    refine awp_skip ?_; refine thenQ_nil ?_; refine awp_seq ?_; refine awp_block ?_; refine awp_seq ?_; refine awp_region ?_; refine awps_stp0 rfl rfl (by decide) (stp_move (.inl rfl) rfl) ?_; refine awps_stp0 rfl rfl (by decide) (stp_move (.inl rfl) rfl) ?_; refine awps_stp0 rfl rfl (by decide) (stp_indexAddr rfl sl_S_api_Bind rfl rfl (by omega) (bdDs_get hx)) ?_; refine awps_stp0 rfl rfl (by decide) (stp_fieldAddr_elp rfl fo_api_Bind_1 rfl) ?_; refine awps_stp0 rfl rfl (by decide) (stp_load_elpa rfl tf_api_Term rfl rfl) ?_
    refine awps_sub (sub_re (T1 := [(13, tmA true x.t), (0, .dat true 5 (bdDs u)), (2, iv (k : Int))]) (O1 := []) (SubT.cons rfl (SubT.cons rfl (SubT.cons rfl SubT.nil))) SubO.nil rfl rfl (noL' (noL hL) _)) ?_; refine awps_spoil rfl rfl rfl (by decide) en_almagestlaw0_Term rfl rfl rfl rfl (spoilTerm_ok 5 x.t hxd) hQW (fun T' O' hT hO => ?_)
    simp only [ShT, ShV, if_true] at hT
    obtain ⟨_, _, rfl, _, _, _, rfl, ⟨es, rfl, hes⟩, _, _, rfl, rfl, rfl⟩ := hT
    simp only [ShO] at hO
    subst hO
    obtain ⟨u1, rfl, hu1, hud1⟩ := shBds u es hes
    have hlu1 := bdDs_length u1
    obtain ⟨x1, hx1⟩ := get_of_lt (l := u1) (k := k) (by omega)
    refine awps_nil ?_; refine thenQ_nil ?_; refine awp_region ?_; refine awps_stp0 rfl rfl (by decide) (stp_move (.inl rfl) rfl) ?_; refine awps_stp0 rfl rfl (by decide) (stp_move (.inl rfl) rfl) ?_; refine awps_stp0 rfl rfl (by decide) (stp_build rfl zv_api_Bind rfl pl_api_Bind rfl rfl) ?_; refine awps_stp0 rfl rfl (by decide) (stp_indexAddr rfl sl_S_api_Bind rfl rfl (by omega) (bdDs_get hx1)) ?_
    refine awps_sub (sub_re (T1 := [(18, .elp true (bdD x1)), (17, .agg [sv ⟨#[115, 112, 111, 105, 108, 116]⟩, iv 0, sv ⟨#[]⟩, iv 0, .imm (.slice none 0 0)]), (0, .dat true 5 (bdDs u1)), (2, iv (k : Int))]) (O1 := []) (SubT.cons rfl (SubT.cons rfl (SubT.cons rfl (SubT.cons rfl SubT.nil)))) SubO.nil rfl rfl (noL' (noL hL) _)) ?_; refine awps_spoilstore rfl rfl rfl tf_api_Bind rfl rfl rfl rfl (by decide) rfl hQW (fun T' O' hT hO => ?_)
    simp only [ShT, ShV, if_true] at hT
    obtain ⟨_, _, rfl, _, _, _, rfl, _, _, _, rfl, ⟨es2, rfl, hes2⟩, _, _, rfl, rfl, rfl⟩ := hT
    simp only [ShO] at hO
    subst hO
    obtain ⟨u2, rfl, hu2, hud2⟩ := shBds u1 es2 hes2
    refine awps_nil ?_; refine inQ_nil ?_; refine thenQ_nil ?_; refine awp_region ?_; refine awps_stp0 rfl rfl (by decide) (stp_move (.inl rfl) rfl) ?_; refine awps_stp0 rfl rfl (by decide) (stp_add rfl rfl rfl (by omega)) ?_; refine awps_stp0 rfl rfl (by decide) (stp_move (.inr rfl) rfl) ?_; refine awps_nil ?_; refine thenQ_nil ?_; refine ⟨?_, u2, ?_, ?_⟩
    · skip
      omega
    · skip
      exact ⟨hud2 _ (hud1 _ hp.1), by omega, by omega⟩
    exact sub_re (SubT.cons (lk_eq rfl (by first | rfl | simp)) (SubT.cons (lk_eq rfl (by first | rfl | simp)) (SubT.nil))) (SubO.nil) rfl rfl (noL' (noL hL) _)
  try simp only [↓cqA, cqB] at c0
  refine awp_exit ?_; refine thenQ_exit (thenQ_exit (inQ_hit ?_))
  -- leaf 0F
  refine ret0 (noL hL) (.inr rfl) (resAs_nil) ?_ ?_
  · rfl
  exact ⟨rfl, rfl⟩
end Go.Proofs.YtdecgkhdbfgldaaGreat

set_option linter.unusedVariables false
set_option linter.unusedSimpArgs false
set_option maxRecDepth 8000
namespace Go.Proofs.YtdecgkhdbfgldaaGreat
open Go
theorem joinL_len (a b : List Bd) : (joinL a b).length ≤ 16 := by
  unfold joinL bothL
  split
  · split
    · rename_i h; exact h.2
    · simp
  · simp
def w2L : List Bd := [⟨sX, numT 5⟩]
theorem wakes2_ok : PF 32 [] (bv true) := by
  have k1 : PF 24 [.imm (.slice none 0 0), sv sX, .agg [iv 2, sv ⟨#[]⟩, iv 5, .imm (.slice none 0 0)]] (.tup [.dat true 5 (bdDs w2L), iv 0]) := by
    have h := AC_le (.cons .nil (.cons .refl (.cons (num_le false 5) .nil))) (Set_ok [] nil_bwf sX (by decide) (numT 5) (numT_w 5 (by decide)))
    rw [show setL [] sX (numT 5) = w2L by kernel_rfl, show setE [] sX (numT 5) = 0 by kernel_rfl] at h
    exact h
  have k2 : PF 30 [bdA w2L, .agg [iv 1, sv sX, iv 0, .imm (.slice none 0 0)]] (.tup [.agg (lift true (tmD (numT 5))), iv 0]) := by
    have h := AC_le (.cons .refl (.cons (var_le false sX) .nil)) (Apply_ok w2L (fun b hb => by simp only [w2L, List.mem_cons, List.not_mem_nil, or_false] at hb; subst hb; exact ⟨by decide, numT_w 5 (by decide)⟩) (varT sX) oX)
    rw [show applyT w2L (varT sX) = numT 5 by kernel_rfl, show applyE w2L (varT sX) = 0 by kernel_rfl] at h
    exact h
  refine AC_intro Tryz.func32 rfl Tryz.ntmps32 (Nat.le_of_ble_eq_true rfl) fun c hL hQ hDD => ?_; refine awp_seq ?_; refine awp_region ?_; refine awps_stp0 rfl rfl (by decide) (stp_move (.inr rfl) rfl) ?_; refine awps_nil ?_; refine thenQ_nil ?_; refine awp_seq ?_; refine awp_region ?_; refine awps_stp0 rfl rfl (by decide) (stp_build rfl zv_api_Term rfl pl_api_Term rfl rfl) ?_
  refine awps_call (avs := [_, _, _]) true rfl rfl rfl (by decide) en_bind_Set rfl rfl (k1) rfl rfl ?_; refine awps_stp0 rfl rfl (by decide) (stp_move (.inl rfl) rfl) ?_; refine awps_stp0 rfl rfl (by decide) (stp_extract rfl rfl rfl) ?_; refine awps_stp0 rfl rfl (by decide) (stp_extract rfl rfl rfl) ?_; refine awps_stp0 rfl rfl (by decide) (stp_move (.inr rfl) rfl) ?_
  refine awps_stp0 rfl rfl (by decide) (stp_move (.inr rfl) rfl) ?_; refine awps_nil ?_; refine thenQ_nil ?_; refine awp_seq ?_; refine awp_sub (sub_untag hQ) ?_; refine awp_region ?_; refine awps_stp0 rfl rfl (by decide) (stp_move (.inl rfl) rfl) ?_; refine awps_stp0 rfl rfl (by decide) (stp_build rfl zv_api_Term rfl pl_api_Term rfl rfl) ?_
  refine awps_call (avs := [_, _]) true rfl rfl rfl (by decide) en_bind_Apply rfl rfl (k2) rfl rfl ?_; refine awps_stp0 rfl rfl (by decide) (stp_move (.inl rfl) rfl) ?_; refine awps_stp0 rfl rfl (by decide) (stp_extract rfl rfl rfl) ?_; refine awps_stp0 rfl rfl (by decide) (stp_extract rfl rfl rfl) ?_; refine awps_stp1 rfl rfl (by decide) (stp_alloc 3 rfl zv_api_Term rfl) rfl ?_
  refine awps_store rfl rfl rfl tf_api_Term rfl rfl rfl rfl rfl rfl rfl rfl rfl ?_; refine awps_stp0 rfl rfl (by decide) (stp_move (.inr rfl) rfl) ?_; refine awps_nil ?_; refine thenQ_nil ?_; refine awp_seq ?_; refine awp_region ?_; refine awps_stp0 rfl rfl (by decide) (stp_move (.inl rfl) rfl) ?_
  refine awps_call (avs := [_]) true rfl rfl rfl (by decide) en_almagestlaw2_num rfl rfl (num2_ok _) rfl rfl ?_; refine awps_stp0 rfl rfl (by decide) (stp_binI rfl rfl rfl rfl) ?_; refine awps_stp0 rfl rfl (by decide) (stp_move (.inl rfl) rfl) ?_; refine awps_split 19 rfl (fun g19 => ?_) (fun g19 => ?_)
  · try simp only [↓cqA, cqB] at g19
    refine awps_g0 rfl rfl rfl (by decide) rfl (by decide) (stp_move (.inl rfl) rfl) ?_; refine awps_g0 rfl rfl rfl (by decide) rfl (by decide) (stp_call (avs := [_]) true rfl en_almagestlaw2_num rfl rfl (num2_ok _) (fun _ => rfl) rfl) ?_; refine awps_g0 rfl rfl rfl (by decide) rfl (by decide) (stp_binI rfl rfl rfl rfl) ?_; refine awps_stp0 rfl rfl (by decide) (stp_pick rfl rfl rfl) ?_; refine awps_stp0 rfl rfl (by decide) (stp_move (.inl rfl) rfl) ?_; refine awps_split 24 rfl (fun g24 => ?_) (fun g24 => ?_)
    · try simp only [↓cqA, cqB] at g24
      refine awps_g0 rfl rfl rfl (by decide) rfl (by decide) (stp_fieldAddr rfl fo_api_Term_2 rfl) ?_; refine awps_g0 rfl rfl rfl (by decide) rfl (by decide) (stp_load rfl tf_int rfl rfl rfl rfl rfl) ?_; refine awps_g0 rfl rfl rfl (by decide) rfl (by decide) (stp_binI rfl rfl rfl rfl) ?_; refine awps_stp0 rfl rfl (by decide) (stp_pick rfl rfl rfl) ?_; refine awps_stp0 rfl rfl (by decide) (stp_move (.inr rfl) rfl) ?_; refine awps_nil ?_; refine thenQ_nil ?_; refine awp_ret ?_
      -- leaf g19Tg24T
      refine ret0 (noL hL) (.inl rfl) (resAs_tmp rfl (resAs_nil)) ?_ ?_
      · rfl
      first
      | exact absurd trivial g19
      | exact absurd trivial g24
      | exact ⟨rfl, rfl⟩
    try simp only [↓cqA, cqB] at g24
    refine awps_gs rfl rfl rfl rfl (by decide) rfl (by decide) ?_; refine awps_gs rfl rfl rfl rfl (by decide) rfl (by decide) ?_; refine awps_gs rfl rfl rfl rfl (by decide) rfl (by decide) ?_; refine awps_stp0 rfl rfl (by decide) (stp_pick rfl rfl rfl) ?_; refine awps_stp0 rfl rfl (by decide) (stp_move (.inr rfl) rfl) ?_; refine awps_nil ?_; refine thenQ_nil ?_; refine awp_ret ?_
    -- leaf g19Tg24F
    refine ret0 (noL hL) (.inl rfl) (resAs_tmp rfl (resAs_nil)) ?_ ?_
    · rfl
    first
    | exact absurd trivial g19
    | exact absurd trivial g24
    | exact ⟨rfl, rfl⟩
  try simp only [↓cqA, cqB] at g19
  refine awps_gs rfl rfl rfl rfl (by decide) rfl (by decide) ?_; refine awps_gs rfl rfl rfl rfl (by decide) rfl (by decide) ?_; refine awps_gs rfl rfl rfl rfl (by decide) rfl (by decide) ?_; refine awps_stp0 rfl rfl (by decide) (stp_pick rfl rfl rfl) ?_; refine awps_stp0 rfl rfl (by decide) (stp_move (.inl rfl) rfl) ?_; refine awps_gs rfl rfl rfl rfl (by decide) rfl (by decide) ?_
  refine awps_gs rfl rfl rfl rfl (by decide) rfl (by decide) ?_; refine awps_gs rfl rfl rfl rfl (by decide) rfl (by decide) ?_; refine awps_stp0 rfl rfl (by decide) (stp_pick rfl rfl rfl) ?_; refine awps_stp0 rfl rfl (by decide) (stp_move (.inr rfl) rfl) ?_; refine awps_nil ?_; refine thenQ_nil ?_; refine awp_ret ?_
  -- leaf g19F
  refine ret0 (noL hL) (.inl rfl) (resAs_tmp rfl (resAs_nil)) ?_ ?_
  · rfl
  first
  | exact absurd trivial g19
  | exact absurd trivial g24
  | exact ⟨rfl, rfl⟩
end Go.Proofs.YtdecgkhdbfgldaaGreat
