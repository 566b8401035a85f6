/- Part 7 of the proof: Fr, Fs, Ft, Fv, Fx, Fy, Fz, Ga, Gb, Gc, Gd, Rdb, Gf, Gj. -/
import Derived.Test.YtdecgkhdbfgldaaGreatG6
set_option linter.unusedVariables false
set_option linter.unusedSimpArgs false
set_option maxRecDepth 8000
namespace Go.Proofs.YtdecgkhdbfgldaaGreat
open Go
abbrev bdA (l : List Bd) : AV := .dat false 5 (bdDs l)
theorem TurnedP_ok (l : List Bd) (hl : BOk l) : ∀ (d : Nat) (t : Tm), dle d t → t.wf → AC Tryz.prog 144 [tmA false t, .fn 215 [.ptr 99 0]] [(99, .box [bdA l])] (fun r O => r = .agg (lift true (tmD (turnT (gB l) d t))) ∧ O = [(99, .box [bdA l])])
  | 0, t, h, _ => h.elim
  | d + 1, t, h, ht => by
    have hlen := tmDs_length t.args
    have hal := ht.2.2.2.1
    refine AC_intro Tryz.func144 rfl Tryz.ntmps144 (Nat.le_of_ble_eq_true rfl) fun c hL hQ hDD => ?_; refine awp_seq ?_; refine awp_region ?_; refine awps_stp1 rfl rfl (by decide) (stp_box 2 rfl rfl rfl) rfl ?_; refine awps_stp1 rfl rfl (by decide) (stp_alloc 4 rfl zv_api_Term rfl) rfl ?_; refine awps_nil ?_; refine thenQ_nil ?_; refine awp_seq ?_; refine awp_seq ?_; refine awp_region ?_; refine awps_stp0 rfl rfl (by decide) (stp_fieldAddr rfl fo_api_Term_0 rfl) ?_; refine awps_stp0 rfl rfl (by decide) (stp_load rfl tf_int rfl rfl rfl rfl rfl) ?_
    refine awps_stp0 rfl rfl (by decide) (stp_binI rfl rfl rfl rfl) ?_; refine awps_nil ?_; refine thenQ_nil ?_; refine awp_cond rfl (fun c0 => ?_) (fun c0 => ?_)
    · try simp only [↓cqA, cqB] at c0
      refine awp_seq ?_; refine awp_region ?_; refine awps_stp0 rfl rfl (by decide) (stp_move (.inl rfl) rfl) ?_; refine awps_stp0 rfl rfl (by decide) (stp_fieldAddr rfl fo_api_Term_1 rfl) ?_; refine awps_stp0 rfl rfl (by decide) (stp_load rfl tf_string rfl rfl rfl rfl rfl) ?_; refine awps_callP (avs := [_]) false rfl rfl rfl (by decide) en_bind_Put_1 rfl rfl (Put1_ok l hl t.name) (rfl) (passO (.cons rfl trivial rfl .nil)) (by rintro r O' ⟨rfl, rfl⟩ l' hl'; exact .inl ((inD_dom (by rfl) l').trans hl')) (by rintro h; cases h) ?_
      rintro r O' ⟨rfl, rfl⟩
      refine awps_store rfl rfl rfl tf_api_Term rfl rfl rfl rfl rfl rfl rfl rfl rfl ?_; refine awps_nil ?_; refine thenQ_nil ?_; refine awp_ret ?_; refine thenQ_ret (?_)
      change retQ _ _ _ _ _ _ _
      refine retO (O' := [(99, _)]) (.inl rfl) (resAs_cell tf_api_Term rfl rfl rfl resAs_nil) (SubO.cons rfl SubO.nil) ?_ ?_ (LO hL rfl) ?_
      · rfl
      · rfl
      exact ⟨by rw [turnT, if_pos c0]; rfl, rfl⟩
    try simp only [↓cqA, cqB] at c0
    refine awp_skip ?_; refine thenQ_nil ?_; refine awp_seq ?_; refine awp_region ?_; refine awps_stp0 rfl rfl (by decide) (stp_move (.inr rfl) rfl) ?_; refine awps_nil ?_; refine thenQ_nil ?_; refine awp_seq ?_; refine awp_seq ?_; refine awp_region ?_; refine awps_stp0 rfl rfl (by decide) (stp_fieldAddr rfl fo_api_Term_3 rfl) ?_; refine awps_stp0 rfl rfl (by decide) (stp_load rfl tf_S_api_Term rfl rfl rfl rfl rfl) ?_; refine awps_stp0 rfl rfl (by decide) (stp_len_dat rfl sl_S_api_Term rfl) ?_
    refine awps_stp0 rfl rfl (by decide) (stp_move (.inl rfl) rfl) ?_; refine awps_nil ?_; refine thenQ_nil ?_; refine awp_block ?_
    refine awp_while (t.args.length) (fun k => k ≤ t.args.length) (fun k => ⟨[(1, .fn 215 [.ptr 99 0]), (2, .ptr 2 0), (4, .ptr 4 0), (5, .row 5), (16, .dat false 4 (tmDs t.args)), (17, iv (tmDs t.args).length), (18, iv (k : Int))], [(99, .box [bdA l]), (2, .box (lift false (tmD t))), (4, .box ([Value.int .i64 0, Value.string ⟨#[]⟩, Value.int .i64 0, Value.slice none 0 0].map .imm)), (5, .rowd 35 4 true (tmDsL ((t.args.take k).map (turnT (gB l) d))))]⟩) (by omega) ?_ (fun k hk hp => ?_)
    · exact Sub.trans (sub_nil_row (t := 5) (l := 5) 35 4 true rfl rfl) (sub_re (SubT.cons (lk_eq rfl (by first | rfl | simp)) (SubT.cons (lk_eq rfl (by first | rfl | simp)) (SubT.cons (lk_eq rfl (by first | rfl | simp)) (SubT.cons (lk_eq rfl (by first | rfl | simp)) (SubT.cons (lk_eq rfl (by first | rfl | simp)) (SubT.cons (lk_eq rfl (by first | rfl | simp)) (SubT.cons (lk_eq rfl (by first | rfl | simp)) (SubT.nil)))))))) (SubO.cons (ok_eq rfl (by rfl)) (SubO.cons (ok_eq rfl (by rfl)) (SubO.cons (ok_eq rfl (by rfl)) (SubO.cons (ok_eq rfl (by rfl)) (SubO.nil))))) rfl rfl (oneL hL rfl))
    have hl2 : (tmDsL ((t.args.take k).map (turnT (gB l) d))).length ≤ t.args.length := by simp [tmDsL]; omega
    refine awp_seq ?_; refine awp_region ?_; refine awps_stp0 rfl rfl (by decide) (stp_binI rfl rfl rfl rfl) ?_; refine awps_nil ?_; refine thenQ_nil ?_; refine awp_seq ?_; refine awp_cond rfl (fun c1 => ?_) (fun c1 => ?_)
    · try simp only [↓cqA, cqB] at c1
      obtain ⟨u, hu⟩ := get_of_lt (l := t.args) (k := k) (by omega)
      have hum := List.mem_of_getElem? hu
      refine awp_skip ?_; refine thenQ_nil ?_; refine awp_seq ?_; refine awp_block ?_; refine awp_seq ?_; refine awp_region ?_; refine awps_stp0 rfl rfl (by decide) (stp_indexAddr rfl sl_S_api_Term rfl rfl (by omega) (tmDs_get hu)) ?_; refine awps_stp0 rfl rfl (by decide) (stp_load_elpa rfl tf_api_Term rfl rfl) ?_
      refine awps_stp1 rfl rfl (by decide) (stp_alloc 7 rfl zv_api_Term rfl) rfl ?_; refine awps_store rfl rfl rfl tf_api_Term rfl rfl rfl rfl rfl rfl rfl rfl rfl ?_; refine awps_nil ?_; refine thenQ_nil ?_; refine awp_region ?_; refine awps_stp0 rfl rfl (by decide) (stp_move (.inl rfl) rfl) ?_; refine awps_stp0 rfl rfl (by decide) (stp_load_all rfl tf_api_Term rfl rfl rfl rfl) ?_
      refine awps_stp0 rfl rfl (by decide) (stp_move (.inl rfl) rfl) ?_; refine awps_callP (avs := [_, _]) false rfl rfl rfl (by decide) en_term_Turned rfl rfl (TurnedP_ok l hl d u (h u hum) (Tm.wfs_mem ht.2.2.2.2 hum)) (rfl) (passO (.cons rfl trivial rfl .nil)) (by rintro r O' ⟨rfl, rfl⟩ l' hl'; exact .inl ((inD_dom (by rfl) l').trans hl')) (by rintro h; cases h) ?_
      rintro r O' ⟨rfl, rfl⟩
      refine awps_stp1 rfl rfl (by decide) (stp_buildSlice 26 rfl sl_S_api_Term zv_api_Term rfl rfl (by decide) (by decide) (by decide) rfl rfl rfl) rfl ?_; refine awps_u rfl rfl (by decide) (stpU_append1 27 ta_S_api_Term rfl rfl rfl rfl rfl rfl rfl rfl (oneL' hL rfl) (by omega) rfl) rfl ?_
      refine awps_stp0 rfl rfl (by decide) (stp_move (.inr rfl) rfl) ?_; refine awps_nil ?_; refine inQ_nil ?_; refine thenQ_nil ?_; refine awp_region ?_; refine awps_stp0 rfl rfl (by decide) (stp_add rfl rfl rfl (by omega)) ?_; refine awps_stp0 rfl rfl (by decide) (stp_move (.inl rfl) rfl) ?_; refine awps_nil ?_; refine thenQ_nil ?_; refine ⟨?_, ?_, ?_⟩
      · skip
        omega
      · skip
        omega
      exact Sub.trans (sub_rename 27 5 (oneL' hL rfl) (oneL' hL rfl)) (sub_re (SubT.cons (lk_eq rfl (by first | rfl | simp)) (SubT.cons (lk_eq rfl (by first | rfl | simp)) (SubT.cons (lk_eq rfl (by first | rfl | simp)) (SubT.cons (lk_eq rfl (by first | rfl | simp)) (SubT.cons (lk_eq rfl (by first | rfl | simp)) (SubT.cons (lk_eq rfl (by first | rfl | simp)) (SubT.cons (lk_eq rfl (by first | rfl | simp)) (SubT.nil)))))))) (SubO.cons (ok_eq rfl (by rfl)) (SubO.cons (ok_eq rfl (by rfl)) (SubO.cons (ok_eq rfl (by rfl)) (SubO.cons (ok_eq rfl (by rw [take_snoc hu, List.map_append, tmDsL, tmDsL, List.map_append]; rfl)) (SubO.nil))))) rfl rfl (oneL hL rfl))
    try simp only [↓cqA, cqB] at c1
    refine awp_exit ?_; refine thenQ_exit (thenQ_exit (inQ_hit ?_)); refine thenQ_nil ?_; refine awp_seq ?_; refine awp_region ?_; refine awps_stp0 rfl rfl (by decide) (stp_move (.inl rfl) rfl) ?_; refine awps_stp0 rfl rfl (by decide) (stp_fieldAddr rfl fo_api_Term_3 rfl) ?_; refine awps_store rfl rfl rfl tf_S_api_Term rfl rfl rfl rfl rfl rfl rfl rfl rfl ?_; refine awps_nil ?_; refine thenQ_nil ?_; refine awp_seq ?_; refine awp_sub (sub_freeze (l := 5) rfl (by decide) (oneL' hL rfl) rfl rfl) ?_; refine awp_region ?_
    refine awps_stp0 rfl rfl (by decide) (stp_load_all rfl tf_api_Term rfl rfl rfl rfl) ?_; refine awps_store rfl rfl rfl tf_api_Term rfl rfl rfl rfl rfl rfl rfl rfl rfl ?_; refine awps_nil ?_; refine thenQ_nil ?_; refine awp_ret ?_
    change retQ _ _ _ _ _ _ _
    refine retO (O' := [(99, _)]) (.inl rfl) (resAs_cell tf_api_Term rfl rfl rfl resAs_nil) (SubO.cons rfl SubO.nil) ?_ ?_ (LO hL rfl) ?_
    · rfl
    · rfl
    exact ⟨by rw [turnT, if_neg c0, List.take_of_length_le (by omega)]; simp only [tmD, tmDs_map]; rfl, rfl⟩
def putT (l : List Bd) (t : Tm) : Tm := turnT (gB l) 5 t
theorem Put_ok (l : List Bd) (hl : BOk l) (t : Tm) (hd : dle 5 t) (ht : t.wf) : PF 160 [bdA l, tmA false t] (.agg (lift true (tmD (putT l t)))) := by
  have key := AC_rnE 99 2 (TurnedP_ok l hl 5 t hd ht)
  refine AC_intro Tryz.func160 rfl Tryz.ntmps160 (Nat.le_of_ble_eq_true rfl) fun c hL hQ hDD => ?_; refine awp_seq ?_; refine awp_region ?_; refine awps_stp1 rfl rfl (by decide) (stp_box 2 rfl rfl rfl) rfl ?_; refine awps_stp1 rfl rfl (by decide) (stp_box 3 rfl rfl rfl) rfl ?_; refine awps_stp1 rfl rfl (by decide) (stp_alloc 4 rfl zv_api_Term rfl) rfl ?_; refine awps_nil ?_; refine thenQ_nil ?_; refine awp_seq ?_; refine awp_region ?_; refine awps_stp0 rfl rfl (by decide) (stp_load_all rfl tf_api_Term rfl rfl rfl rfl) ?_
  refine awps_stp0 rfl rfl (by decide) (stp_makeFunc (vs := [_]) rfl rfl) ?_; refine awps_callP (avs := [_, _]) false rfl rfl rfl (by decide) en_term_Turned rfl rfl (key) (rfl) (passO (.cons rfl trivial rfl .nil)) (by rintro r O' ⟨rfl, rfl⟩ l' hl'; exact .inl ((inD_dom (by rfl) l').trans hl')) (by rintro h; cases h) ?_
  rintro r O' ⟨rfl, rfl⟩
  refine awps_store rfl rfl rfl tf_api_Term rfl rfl rfl rfl rfl rfl rfl rfl rfl ?_; refine awps_nil ?_; refine thenQ_nil ?_; refine awp_ret ?_
  -- leaf 
  refine ret0 (noL hL) (.inl rfl) (resAs_cell tf_api_Term rfl rfl rfl (resAs_nil)) ?_ ?_
  · rfl
  exact ⟨by rfl, rfl⟩
theorem turnT_wf (g : ByteArray → Tm) (hg : ∀ s, s.size ≤ 140737488351232 → (g s).wf) : ∀ (d : Nat) (t : Tm), t.wf → (turnT g d t).wf
  | 0, t, h => h
  | d + 1, t, h => by
    simp only [turnT]
    split
    · exact hg _ h.2.1
    · refine ⟨h.1, h.2.1, h.2.2.1, by simpa using h.2.2.2.1, ?_⟩
      have key : ∀ ts : List Tm, Tm.wfs ts → Tm.wfs (ts.map (turnT g d)) := fun ts => by
        induction ts with
        | nil => intro _; trivial
        | cons a ts ih =>
          intro h
          simp only [Tm.wfs, List.map_cons] at h ⊢
          exact ⟨(Tm.wf0_iff _).2 (turnT_wf g hg d a ((Tm.wf0_iff _).1 h.1)), ih h.2⟩
      exact key _ h.2.2.2.2
theorem varTm_wf {s : ByteArray} (h : s.size ≤ 140737488351232) : (Tm.mk 1 s 0 []).wf := ⟨⟨by simp, by simp⟩, h, ⟨by simp, by simp⟩, Nat.zero_le _, trivial⟩
theorem gB_wf {l : List Bd} (hl : BOk l) (s : ByteArray) (h : s.size ≤ 140737488351232) : (gB l s).wf := by
  unfold gB
  cases hh : lookB l s with
  | none => exact varTm_wf h
  | some t => exact (hl.look hh).1
theorem putT_wf {l : List Bd} (hl : BOk l) {t : Tm} (ht : t.wf) : (putT l t).wf := turnT_wf _ (gB_wf hl) _ _ ht
def intoT (l : List Bd) (t : Tm) : Tm := if mayT (putT l t) = true then putT l t else zeroTm
def intoE (l : List Bd) (t : Tm) : Int := if mayT (putT l t) = true then 0 else 2
theorem Into_ok (l : List Bd) (hl : BOk l) (t : Tm) (hd : dle 5 t) (ht : t.wf) : PF 98 [bdA l, tmA false t] (.tup [.agg (lift true (tmD (intoT l t))), iv (intoE l t)]) := by
  refine AC_leP (Post := fun r O => (mayT (putT l t) = true ∧ r = .tup [.agg (lift true (tmD (putT l t))), iv 0] ∨ mayT (putT l t) = false ∧ r = .tup [.agg [iv 0, sv ⟨#[]⟩, iv 0, .imm (.slice none 0 0)], iv 2]) ∧ O = []) ?_ (fun r O' h => by
    obtain ⟨⟨h1, rfl⟩ | ⟨h1, rfl⟩, rfl⟩ := h
    · exact ⟨_, .refl, by rw [intoT, intoE, if_pos h1, if_pos h1], rfl⟩
    · exact ⟨_, .tup (.cons (zero_le true) (.cons .refl .nil)), by rw [intoT, intoE, if_neg (by simp [h1]), if_neg (by simp [h1])], rfl⟩)
  have hw := putT_wf hl ht
  refine AC_intro Tryz.func98 rfl Tryz.ntmps98 (Nat.le_of_ble_eq_true rfl) fun c hL hQ hDD => ?_; refine awp_seq ?_; refine awp_region ?_; refine awps_stp1 rfl rfl (by decide) (stp_box 3 rfl rfl rfl) rfl ?_; refine awps_stp1 rfl rfl (by decide) (stp_alloc 4 rfl zv_api_Term rfl) rfl ?_; refine awps_stp0 rfl rfl (by decide) (stp_move (.inr rfl) rfl) ?_; refine awps_nil ?_; refine thenQ_nil ?_; refine awp_seq ?_; refine awp_region ?_; refine awps_stp0 rfl rfl (by decide) (stp_move (.inl rfl) rfl) ?_; refine awps_stp0 rfl rfl (by decide) (stp_load_all rfl tf_api_Term rfl rfl rfl rfl) ?_
  refine awps_call (avs := [_, _]) false rfl rfl rfl (by decide) en_bind_Put rfl rfl (Put_ok l hl t hd ht) rfl rfl ?_; refine awps_stp1 rfl rfl (by decide) (stp_alloc 6 rfl zv_api_Term rfl) rfl ?_; refine awps_store rfl rfl rfl tf_api_Term rfl rfl rfl rfl rfl rfl rfl rfl rfl ?_; refine awps_nil ?_; refine thenQ_nil ?_; refine awp_seq ?_; refine awp_seq ?_; refine awp_region ?_; refine awps_stp0 rfl rfl (by decide) (stp_load_all rfl tf_api_Term rfl rfl rfl rfl) ?_
  refine awps_call (avs := [_]) true rfl rfl rfl (by decide) en_term_May rfl rfl (May_ok (putT l t) hw) rfl rfl ?_; refine awps_stp0 rfl rfl (by decide) (stp_not rfl rfl) ?_; refine awps_nil ?_; refine thenQ_nil ?_; refine awp_cond rfl (fun c0 => ?_) (fun c0 => ?_)
  · try simp only [↓cqA, cqB] at c0
    refine awp_seq ?_; refine awp_region ?_; refine awps_stp0 rfl rfl (by decide) (stp_build rfl zv_api_Term rfl pl_api_Term rfl rfl) ?_; refine awps_store rfl rfl rfl tf_api_Term rfl rfl rfl rfl rfl rfl rfl rfl rfl ?_; refine awps_stp0 rfl rfl (by decide) (stp_move (.inr rfl) rfl) ?_; refine awps_nil ?_; refine thenQ_nil ?_; refine awp_ret ?_; refine thenQ_ret (?_)
    -- leaf 0T
    refine ret0 (noL hL) (.inl rfl) (resAs_cell tf_api_Term rfl rfl rfl (resAs_tmp rfl (resAs_nil))) ?_ ?_
    · rfl
    exact ⟨.inr ⟨c0, rfl⟩, rfl⟩
  try simp only [↓cqA, cqB] at c0
  refine awp_skip ?_; refine thenQ_nil ?_; refine awp_seq ?_; refine awp_region ?_; refine awps_stp0 rfl rfl (by decide) (stp_load_all rfl tf_api_Term rfl rfl rfl rfl) ?_; refine awps_store rfl rfl rfl tf_api_Term rfl rfl rfl rfl rfl rfl rfl rfl rfl ?_; refine awps_stp0 rfl rfl (by decide) (stp_move (.inr rfl) rfl) ?_; refine awps_nil ?_; refine thenQ_nil ?_; refine awp_ret ?_
  -- leaf 0F
  refine ret0 (noL hL) (.inl rfl) (resAs_cell tf_api_Term rfl rfl rfl (resAs_tmp rfl (resAs_nil))) ?_ ?_
  · rfl
  exact ⟨.inl ⟨c0, rfl⟩, rfl⟩
theorem into_may {l : List Bd} {t : Tm} (h : intoE l t = 0) : mayT (putT l t) = true ∧ intoT l t = putT l t := by
  unfold intoE at h
  split at h
  · rename_i hm; exact ⟨hm, by rw [intoT, if_pos hm]⟩
  · cases h
end Go.Proofs.YtdecgkhdbfgldaaGreat

set_option linter.unusedVariables false
set_option linter.unusedSimpArgs false
set_option maxRecDepth 8000
namespace Go.Proofs.YtdecgkhdbfgldaaGreat
open Go
theorem IndexFunc_st_ok (B : Bool) (ts : List ByteArray) (es : List (List D)) (hes : es = ts.map (fun s => [D.imm (.string s)])) (hlen : ts.length ≤ 140737488351232) (g : FuncId) (caps : List AV) (hen : Enters Tryz.prog g) (Os : Nat → List (Nat × Ob)) (p : Nat → Bool) (hO : Thread B caps Os)
    (hstep : ∀ k u, ts[k]? = some u → (∀ j, j < k → p j = false) → AC Tryz.prog g (sv u :: caps) (Os k) (fun r O => r = bv (p k) ∧ O = Os (k + 1))) :
    AC Tryz.prog 152 [.dat false 1 es, .fn g caps] (Os 0) (fun r O => ∃ m n i, m ≤ ts.length ∧ (∀ j, j < m → p j = false) ∧ ((m < ts.length ∧ p m = true ∧ i = (m : Int) ∧ n = m + 1) ∨ (m = ts.length ∧ i = -1 ∧ n = m)) ∧ r = iv i ∧ O = Os n) := by
  have hl : es.length = ts.length := by rw [hes, List.length_map]
  refine AC_intro Tryz.func152 rfl Tryz.ntmps152 (Nat.le_of_ble_eq_true rfl) fun c hL hQ hDD => ?_; refine awp_seq ?_; refine awp_region ?_; refine awps_stp0 rfl rfl (by decide) (stp_move (.inr rfl) rfl) ?_; refine awps_nil ?_; refine thenQ_nil ?_; refine awp_seq ?_; refine awp_seq ?_; refine awp_region ?_; refine awps_stp0 rfl rfl (by decide) (stp_move (.inl rfl) rfl) ?_; refine awps_stp0 rfl rfl (by decide) (stp_len_dat rfl sl_S_string rfl) ?_
  refine awps_stp0 rfl rfl (by decide) (stp_move (.inl rfl) rfl) ?_; refine awps_nil ?_; refine thenQ_nil ?_; refine awp_block ?_; refine awp_while (ts.length) (fun k => k ≤ ts.length ∧ ∀ j, j < k → p j = false) (fun k => ⟨[(0, .dat false 1 es), (1, .fn g caps), (7, iv es.length), (8, iv (k : Int))], Os k⟩) (⟨by omega, fun j hj => absurd hj (by omega)⟩) ?_ (fun k hk hp => ?_)
  · exact sub_re (SubT.cons (lk_eq rfl (by first | rfl | simp)) (SubT.cons (lk_eq rfl (by first | rfl | simp)) (SubT.cons (lk_eq rfl (by first | rfl | simp)) (SubT.cons (lk_eq rfl (by first | rfl | simp)) (SubT.nil))))) (fun _ _ h => h) (by simp [allT, AV.allL, hO.all]) (hO.self _) (fun l hl => by rw [hO.dom]; exact (hL l).1 hl)
  refine awp_seq ?_; refine awp_region ?_; refine awps_stp0 rfl rfl (by decide) (stp_binI rfl rfl rfl rfl) ?_; refine awps_nil ?_; refine thenQ_nil ?_; refine awp_seq ?_; refine awp_cond rfl (fun c0 => ?_) (fun c0 => ?_)
  · try simp only [↓cqA, cqB] at c0
    obtain ⟨u, hu⟩ := get_of_lt (l := ts) (k := k) (by omega)
    refine awp_skip ?_; refine thenQ_nil ?_; refine awp_seq ?_; refine awp_block ?_; refine awp_seq ?_; refine awp_region ?_; refine awps_stp0 rfl rfl (by decide) (stp_move (.inl rfl) rfl) ?_; refine awps_stp0 rfl rfl (by decide) (stp_move (.inr rfl) rfl) ?_; refine awps_nil ?_; refine thenQ_nil ?_; refine awp_seq ?_; refine awp_region ?_; refine awps_stp0 rfl rfl (by decide) (stp_move (.inl rfl) rfl) ?_; refine awps_stp0 rfl rfl (by decide) (stp_move (.inl rfl) rfl) ?_; refine awps_stp0 rfl rfl (by decide) (stp_move (.inl rfl) rfl) ?_
    refine awps_stp0 rfl rfl (by decide) (stp_indexAddr rfl sl_S_string rfl rfl (by omega) (by rw [hes, List.getElem?_map]; exact congrArg (Option.map (fun s => [D.imm (.string s)])) hu)) ?_; refine awps_stp0 rfl rfl (by decide) (stp_load_elp1 rfl tf_string rfl) ?_; refine awps_callP (avs := [_]) B rfl rfl rfl (by decide) hen rfl rfl (hstep k u hu hp.2) (by rw [List.cons_append, List.nil_append]; simp only [AV.cvs, hO.cvs]; rfl) (hO.pass k) (by rintro r O' ⟨_, rfl⟩ l hl; left; rw [hO.dom] at hl ⊢; exact hl) (by rintro hB r O' ⟨rfl, rfl⟩; exact ⟨rfl, hO.q hB _⟩) ?_
    rintro r O' ⟨rfl, rfl⟩
    refine awps_nil ?_; refine thenQ_nil ?_; refine awp_cond rfl (fun c1 => ?_) (fun c1 => ?_)
    · try simp only [↓cqA, cqB] at c1
      refine awp_seq ?_; refine awp_region ?_; refine awps_stp0 rfl rfl (by decide) (stp_move (.inl rfl) rfl) ?_; refine awps_stp0 rfl rfl (by decide) (stp_move (.inr rfl) rfl) ?_; refine awps_nil ?_; refine thenQ_nil ?_; refine awp_ret ?_; refine inQ_ret (thenQ_ret (thenQ_ret (inQ_ret (thenQ_ret (?_)))))
      change retQ _ _ _ _ _ _ _
      refine retO (.inl rfl) (resAs_tmp rfl resAs_nil) SubO.left rfl (hO.self _) (fun l hl => by rw [hO.dom]; exact (hL l).1 hl) ?_
      exact ⟨k, _, _, by omega, hp.2, .inl ⟨by omega, c1, rfl, rfl⟩, rfl, rfl⟩
    try simp only [↓cqA, cqB] at c1
    refine awp_skip ?_; refine inQ_nil ?_; refine thenQ_nil ?_; refine awp_region ?_; refine awps_stp0 rfl rfl (by decide) (stp_add rfl rfl rfl (by omega)) ?_; refine awps_stp0 rfl rfl (by decide) (stp_move (.inl rfl) rfl) ?_; refine awps_nil ?_; refine thenQ_nil ?_; refine ⟨?_, ?_, ?_⟩
    · skip
      omega
    · skip
      refine ⟨by omega, fun j hj => ?_⟩
      by_cases hjk : j < k
      · exact hp.2 j hjk
      · rw [show j = k by omega]; exact c1
    exact sub_re (SubT.cons (lk_eq rfl (by first | rfl | simp)) (SubT.cons (lk_eq rfl (by first | rfl | simp)) (SubT.cons (lk_eq rfl (by first | rfl | simp)) (SubT.cons (lk_eq rfl (by first | rfl | simp)) (SubT.nil))))) (SubO.left) (by simp [allT, AV.allL, hO.all]) (hO.self _) (fun l hl => by rw [hO.dom]; exact (hL l).1 hl)
  try simp only [↓cqA, cqB] at c0
  refine awp_exit ?_; refine thenQ_exit (thenQ_exit (inQ_hit ?_)); refine thenQ_nil ?_; refine awp_seq ?_; refine awp_region ?_; refine awps_stp0 rfl rfl (by decide) (stp_move (.inr rfl) rfl) ?_; refine awps_nil ?_; refine thenQ_nil ?_; refine awp_ret ?_
  change retQ _ _ _ _ _ _ _
  refine retO (.inl rfl) (resAs_tmp rfl resAs_nil) (fun _ _ h => h) rfl (hO.self _) (fun l hl => by rw [hO.dom]; exact (hL l).1 hl) ?_
  exact ⟨k, _, _, by omega, hp.2, .inr ⟨by omega, rfl, rfl⟩, rfl, rfl⟩
theorem ContainsFunc_st_ok (B : Bool) (ts : List ByteArray) (es : List (List D)) (hes : es = ts.map (fun s => [D.imm (.string s)])) (hlen : ts.length ≤ 140737488351232) (g : FuncId) (caps : List AV) (hen : Enters Tryz.prog g) (Os : Nat → List (Nat × Ob)) (p : Nat → Bool) (hO : Thread B caps Os)
    (hstep : ∀ k u, ts[k]? = some u → (∀ j, j < k → p j = false) → AC Tryz.prog g (sv u :: caps) (Os k) (fun r O => r = bv (p k) ∧ O = Os (k + 1))) :
    AC Tryz.prog 91 [.dat false 1 es, .fn g caps] (Os 0) (fun r O => ∃ m n b, m ≤ ts.length ∧ (∀ j, j < m → p j = false) ∧ ((m < ts.length ∧ p m = true ∧ b = true ∧ n = m + 1) ∨ (m = ts.length ∧ b = false ∧ n = m)) ∧ r = bv b ∧ O = Os n) := by
  refine AC_intro Tryz.func91 rfl Tryz.ntmps91 (Nat.le_of_ble_eq_true rfl) fun c hL hQ hDD => ?_; refine awp_seq ?_; refine awp_region ?_; refine awps_stp0 rfl rfl (by decide) (stp_move (.inr rfl) rfl) ?_; refine awps_nil ?_; refine thenQ_nil ?_; refine awp_seq ?_; refine awp_region ?_; refine awps_stp0 rfl rfl (by decide) (stp_move (.inl rfl) rfl) ?_; refine awps_stp0 rfl rfl (by decide) (stp_move (.inl rfl) rfl) ?_
  refine awps_callP (avs := [_, _]) B rfl rfl rfl (by decide) en_slices_IndexFunc_string_string rfl rfl (IndexFunc_st_ok B ts es hes hlen g caps hen Os p hO hstep) (by simp only [List.append_nil, AV.cvs, AV.cv, hO.cvs]; rfl) (hO.pass 0) (by rintro r O' ⟨m, n, i, _, _, _, _, rfl⟩ l hl; left; rw [hO.dom] at hl ⊢; exact hl) (by rintro hB r O' ⟨m, n, i, _, _, _, rfl, rfl⟩; exact ⟨rfl, hO.q hB _⟩) ?_
  rintro r O' ⟨m, n, i, hm, hf, hc, rfl, rfl⟩
  refine awps_stp0 rfl rfl (by decide) (stp_binI rfl rfl rfl rfl) ?_; refine awps_stp0 rfl rfl (by decide) (stp_move (.inr rfl) rfl) ?_; refine awps_nil ?_; refine thenQ_nil ?_; refine awp_ret ?_
  -- leaf 
  change retQ _ _ _ _ _ _ _
  refine retO (.inl rfl) (resAs_tmp rfl resAs_nil) SubO.left rfl (hO.self _) (fun l hl => by rw [hO.dom]; exact (hL l).1 hl) ?_; refine ⟨m, n, _, hm, hf, ?_, rfl, rfl⟩
  rcases hc with ⟨h1, h2, rfl, h3⟩ | ⟨h1, rfl, h3⟩
  · exact .inl ⟨h1, h2, by simp, h3⟩
  · exact .inr ⟨h1, by simp, h3⟩
theorem noteL_sum {ts : List Tm} (h : ∀ t ∈ ts, mayT t = true) : (ts.map (nodes 5)).sum ≤ 25 * ts.length := by
  induction ts with
  | nil => simp
  | cons a ts ih =>
    have h1 := (mayT_dle (h a (by simp))).2
    have h2 := ih (fun t ht => h t (by simp [ht]))
    simp only [List.map_cons, List.sum_cons, List.length_cons]; omega
theorem wfs_of : ∀ {ts : List Tm}, (∀ t ∈ ts, t.wf) → Tm.wfs ts
  | [], _ => trivial
  | t :: ts, h => ⟨(Tm.wf0_iff t).2 (h t (by simp)), wfs_of (fun u hu => h u (by simp [hu]))⟩
theorem rising_len {L N : List ByteArray} (hr : Rising L) (hm : ∀ s, s ∈ L ↔ s ∈ N) : L.length ≤ N.length := by
  have hnd : L.Nodup := by
    refine hr.imp fun {a b} h e => ?_
    subst e; exact List.lt_irrefl _ h
  exact hnd.length_le_of_subset (fun s hs => (hm s).1 hs)
end Go.Proofs.YtdecgkhdbfgldaaGreat

set_option linter.unusedVariables false
set_option linter.unusedSimpArgs false
set_option maxRecDepth 8000
namespace Go.Proofs.YtdecgkhdbfgldaaGreat
open Go
def goodB (one l : List Bd) : Bool := l.all (fun b => decide (intoE one b.t = 0))
def subB (one l : List Bd) : List Bd := l.map (fun b => ⟨b.name, putT one b.t⟩)
def standL (l : List Bd) (name : ByteArray) (t : Tm) : List Bd := if 16 ≤ l.length ∨ goodB [⟨name, t⟩] l = false then [] else ins (subB [⟨name, t⟩] l) (posB l name) ⟨name, t⟩
def standE (l : List Bd) (name : ByteArray) (t : Tm) : Int := if 16 ≤ l.length ∨ goodB [⟨name, t⟩] l = false then 2 else 0
theorem subB_pos (one : List Bd) (s : ByteArray) : ∀ l : List Bd, posB (subB one l) s = posB l s
  | [] => rfl
  | b :: l => by
    have ih := subB_pos one s l
    simp only [posB, subB] at ih
    by_cases h : ltS b.name s = true
    · simp [posB, subB, List.takeWhile_cons, h, ih]
    · simp [posB, subB, List.takeWhile_cons, h]
theorem subB_ris (one : List Bd) {l : List Bd} (h : RisB l) : RisB (subB one l) := List.pairwise_map.2 (h.imp fun h => h)
theorem subB_length (one l : List Bd) : (subB one l).length = l.length := by simp [subB]
theorem one_bok {name : ByteArray} {t : Tm} (hn : name.size ≤ 140737488351232) (ht : t.wf) (hm : mayT t = true) : BOk [⟨name, t⟩] := ⟨List.pairwise_singleton _ _, by simp, fun b hb => by simp only [List.mem_singleton] at hb; subst hb; exact ⟨⟨hn, ht⟩, hm⟩⟩
theorem Stand_ok (l : List Bd) (hl : BOk l) (name : ByteArray) (hn : name.size ≤ 140737488351232) (t : Tm) (ht : t.wf) (hm : mayT t = true) : PF 93 [bdA l, sv name, tmA false t] (.tup [.dat true 5 (bdDs (standL l name t)), iv (standE l name t)]) := by
  have hlen := bdDs_length l
  have hone := one_bok hn ht hm
  have hll := hl.len
  have key := Own_ok 5 t (mayT_dle hm).1 ht
  rw [own_may 5 t 24 hm] at key
  refine AC_leP (Post := fun r O => ((16 ≤ l.length ∨ goodB [⟨name, t⟩] l = false) ∧ r = .tup [.imm (.slice none 0 0), iv 2] ∨ r = .tup [.dat true 5 (bdDs (standL l name t)), iv (standE l name t)]) ∧ O = []) ?_ (fun r O' h => by
    obtain ⟨⟨h1, rfl⟩ | rfl, rfl⟩ := h
    · exact ⟨_, .tup (.cons (.nil (f := true) (k := 5)) (.cons .refl .nil)), by rw [standL, standE, if_pos h1, if_pos h1]; rfl, rfl⟩
    · exact ⟨_, .refl, rfl, rfl⟩)
  refine AC_intro Tryz.func93 rfl Tryz.ntmps93 (Nat.le_of_ble_eq_true rfl) fun c hL hQ hDD => ?_; refine awp_seq ?_; refine awp_region ?_; refine awps_stp1 rfl rfl (by decide) (stp_box 5 rfl rfl rfl) rfl ?_; refine awps_stp0 rfl rfl (by decide) (stp_move (.inr rfl) rfl) ?_; refine awps_stp0 rfl rfl (by decide) (stp_move (.inr rfl) rfl) ?_; refine awps_nil ?_; refine thenQ_nil ?_; refine awp_seq ?_; refine awp_seq ?_; refine awp_region ?_; refine awps_stp0 rfl rfl (by decide) (stp_move (.inl rfl) rfl) ?_; refine awps_stp0 rfl rfl (by decide) (stp_len_dat rfl sl_S_api_Bind rfl) ?_
  refine awps_stp0 rfl rfl (by decide) (stp_binI rfl rfl rfl rfl) ?_; refine awps_nil ?_; refine thenQ_nil ?_; refine awp_cond rfl (fun c0 => ?_) (fun c0 => ?_)
  · try simp only [↓cqA, cqB] at c0
    refine awp_seq ?_; refine awp_region ?_; refine awps_stp0 rfl rfl (by decide) (stp_move (.inr rfl) rfl) ?_; refine awps_stp0 rfl rfl (by decide) (stp_move (.inr rfl) rfl) ?_; refine awps_nil ?_; refine thenQ_nil ?_; refine awp_ret ?_; refine thenQ_ret (?_)
    -- leaf 0T
    refine ret0 (noL hL) (.inl rfl) (resAs_tmp rfl (resAs_tmp rfl (resAs_nil))) ?_ ?_
    · rfl
    exact ⟨.inl ⟨.inl (by omega), rfl⟩, rfl⟩
  try simp only [↓cqA, cqB] at c0
  refine awp_skip ?_; refine thenQ_nil ?_; refine awp_seq ?_; refine awp_region ?_; refine awps_stp0 rfl rfl (by decide) (stp_move (.inl rfl) rfl) ?_; refine awps_stp0 rfl rfl (by decide) (stp_load_all rfl tf_api_Term rfl rfl rfl rfl) ?_
  refine awps_stp0 rfl rfl (by decide) (stp_build rfl zv_api_Bind rfl pl_api_Bind rfl rfl) ?_; refine awps_stp1 rfl rfl (by decide) (stp_buildSlice 22 rfl sl_S_api_Bind zv_api_Bind rfl rfl (by decide) (by decide) (by decide) rfl rfl rfl) rfl ?_; refine awps_rowd 22 false 1 rfl rfl rfl rfl ?_; refine awps_stp0 rfl rfl (by decide) (stp_move (.inr rfl) rfl) ?_; refine awps_nil ?_
  refine thenQ_nil ?_; refine awp_seq ?_; refine awp_region ?_; refine awps_stp0 rfl rfl (by decide) (stp_move (.inr rfl) rfl) ?_; refine awps_nil ?_; refine thenQ_nil ?_; refine awp_seq ?_; refine awp_seq ?_; refine awp_region ?_; refine awps_stp0 rfl rfl (by decide) (stp_move (.inl rfl) rfl) ?_; refine awps_stp0 rfl rfl (by decide) (stp_len_dat rfl sl_S_api_Bind rfl) ?_; refine awps_stp0 rfl rfl (by decide) (stp_move (.inl rfl) rfl) ?_; refine awps_nil ?_; refine thenQ_nil ?_; refine awp_block ?_
  refine awp_while (l.length) (fun k => k ≤ l.length ∧ ∀ (j : Nat) (b : Bd), j < k → l[j]? = some b → intoE [⟨name, t⟩] b.t = 0) (fun k => ⟨[(1, sv name), (5, .ptr 5 0), (8, .row 22), (9, .row 9), (23, bdA l), (24, iv (bdDs l).length), (25, iv (k : Int))], [(5, .box (lift false (tmD t))), (22, .rowd 40 5 false (bdDs [⟨name, t⟩])), (9, .rowd 40 5 true (bdDs (subB [⟨name, t⟩] (l.take k))))]⟩) (⟨by omega, fun j b hj => absurd hj (by omega)⟩) ?_ (fun k hk hp => ?_)
  · exact Sub.trans (sub_nil_row (t := 9) (l := 9) 40 5 true rfl rfl) (sub_re (SubT.cons (lk_eq rfl (by first | rfl | simp)) (SubT.cons (lk_eq rfl (by first | rfl | simp)) (SubT.cons (lk_eq rfl (by first | rfl | simp)) (SubT.cons (lk_eq rfl (by first | rfl | simp)) (SubT.cons (lk_eq rfl (by first | rfl | simp)) (SubT.cons (lk_eq rfl (by first | rfl | simp)) (SubT.cons (lk_eq rfl (by first | rfl | simp)) (SubT.nil)))))))) (SubO.cons (ok_eq rfl (by rfl)) (SubO.cons (ok_eq rfl (by rfl)) (SubO.cons (ok_eq rfl (by rfl)) (SubO.nil)))) rfl rfl (noL' (noL hL) _))
  have hl2 : (bdDs (subB [⟨name, t⟩] (l.take k))).length ≤ l.length := by rw [bdDs_length, subB_length, List.length_take]; omega
  refine awp_seq ?_; refine awp_region ?_; refine awps_stp0 rfl rfl (by decide) (stp_binI rfl rfl rfl rfl) ?_; refine awps_nil ?_; refine thenQ_nil ?_; refine awp_seq ?_; refine awp_cond rfl (fun c1 => ?_) (fun c1 => ?_)
  · try simp only [↓cqA, cqB] at c1
    obtain ⟨u, hu⟩ := get_of_lt (l := l) (k := k) (by omega)
    have hum := hl.el u (List.mem_of_getElem? hu)
    refine awp_skip ?_; refine thenQ_nil ?_; refine awp_seq ?_; refine awp_block ?_; refine awp_seq ?_; refine awp_region ?_; refine awps_stp0 rfl rfl (by decide) (stp_indexAddr rfl sl_S_api_Bind rfl rfl (by omega) (bdDs_get hu)) ?_; refine awps_stp0 rfl rfl (by decide) (stp_load_elpa rfl tf_api_Bind rfl rfl) ?_
    refine awps_stp1 rfl rfl (by decide) (stp_alloc 11 rfl zv_api_Bind rfl) rfl ?_; refine awps_store rfl rfl rfl tf_api_Bind rfl rfl rfl rfl rfl rfl rfl rfl rfl ?_; refine awps_nil ?_; refine thenQ_nil ?_; refine awp_seq ?_; refine awp_region ?_; refine awps_stp0 rfl rfl (by decide) (stp_move (.inl rfl) rfl) ?_; refine awps_stp0 rfl rfl (by decide) (stp_fieldAddr rfl fo_api_Bind_1 rfl) ?_; refine awps_stp0 rfl rfl (by decide) (stp_load rfl tf_api_Term rfl rfl rfl rfl rfl) ?_
    refine awps_call (avs := [_, _]) true rfl rfl rfl (by decide) en_bind_Into rfl rfl (Into_ok [⟨name, t⟩] hone u.t (mayT_dle hum.2).1 hum.1.2) rfl rfl ?_; refine awps_stp0 rfl rfl (by decide) (stp_move (.inl rfl) rfl) ?_; refine awps_stp0 rfl rfl (by decide) (stp_extract rfl rfl rfl) ?_; refine awps_stp0 rfl rfl (by decide) (stp_extract rfl rfl rfl) ?_
    refine awps_stp1 rfl rfl (by decide) (stp_alloc 12 rfl zv_api_Term rfl) rfl ?_; refine awps_store rfl rfl rfl tf_api_Term rfl rfl rfl rfl rfl rfl rfl rfl rfl ?_; refine awps_stp0 rfl rfl (by decide) (stp_move (.inr rfl) rfl) ?_; refine awps_nil ?_; refine thenQ_nil ?_; refine awp_seq ?_; refine awp_seq ?_; refine awp_region ?_; refine awps_stp0 rfl rfl (by decide) (stp_move (.inl rfl) rfl) ?_; refine awps_stp0 rfl rfl (by decide) (stp_binI rfl rfl rfl rfl) ?_; refine awps_nil ?_; refine thenQ_nil ?_; refine awp_cond rfl (fun c2 => ?_) (fun c2 => ?_)
    · try simp only [↓cqA, cqB] at c2
      refine awp_seq ?_; refine awp_region ?_; refine awps_stp0 rfl rfl (by decide) (stp_move (.inl rfl) rfl) ?_; refine awps_stp0 rfl rfl (by decide) (stp_move (.inr rfl) rfl) ?_; refine awps_stp0 rfl rfl (by decide) (stp_move (.inr rfl) rfl) ?_; refine awps_nil ?_; refine thenQ_nil ?_; refine awp_ret ?_; refine thenQ_ret (inQ_ret (thenQ_ret (thenQ_ret (inQ_ret (thenQ_ret (?_))))))
      -- leaf 0F1T2T
      refine ret0 (noL hL) (.inl rfl) (resAs_tmp rfl (resAs_tmp rfl (resAs_nil))) ?_ ?_
      · rfl
      refine ⟨.inl ⟨.inr ?_, ?_⟩, rfl⟩
      · refine List.all_eq_false.2 ⟨u, List.mem_of_getElem? hu, by simpa using c2⟩
      · have : intoE [⟨name, t⟩] u.t = 2 := by
          unfold intoE at c2 ⊢
          split
          · rename_i h; rw [if_pos h] at c2; exact absurd rfl c2
          · rfl
        rw [this]; rfl
    try simp only [↓cqA, cqB] at c2
    obtain ⟨hput, hit⟩ := into_may c2
    rw [hit]
    refine awp_skip ?_; refine thenQ_nil ?_; refine awp_region ?_; refine awps_stp0 rfl rfl (by decide) (stp_move (.inl rfl) rfl) ?_; refine awps_stp0 rfl rfl (by decide) (stp_fieldAddr rfl fo_api_Bind_0 rfl) ?_; refine awps_stp0 rfl rfl (by decide) (stp_load rfl tf_string rfl rfl rfl rfl rfl) ?_; refine awps_stp0 rfl rfl (by decide) (stp_load_all rfl tf_api_Term rfl rfl rfl rfl) ?_
    refine awps_stp0 rfl rfl (by decide) (stp_build rfl zv_api_Bind rfl pl_api_Bind rfl rfl) ?_; refine awps_stp1 rfl rfl (by decide) (stp_buildSlice 44 rfl sl_S_api_Bind zv_api_Bind rfl rfl (by decide) (by decide) (by decide) rfl rfl rfl) rfl ?_; refine awps_u rfl rfl (by decide) (stpU_append1 45 ta_S_api_Bind rfl rfl rfl rfl rfl rfl rfl rfl (noL hL _) (by omega) rfl) rfl ?_
    refine awps_stp0 rfl rfl (by decide) (stp_move (.inr rfl) rfl) ?_; refine awps_nil ?_; refine inQ_nil ?_; refine thenQ_nil ?_; refine awp_region ?_; refine awps_stp0 rfl rfl (by decide) (stp_add rfl rfl rfl (by omega)) ?_; refine awps_stp0 rfl rfl (by decide) (stp_move (.inl rfl) rfl) ?_; refine awps_nil ?_; refine thenQ_nil ?_; refine ⟨?_, ?_, ?_⟩
    · skip
      omega
    · skip
      refine ⟨by omega, fun j b hj hb => ?_⟩
      by_cases hjk : j < k
      · exact hp.2 j b hjk hb
      · rw [show j = k by omega, hu] at hb; cases hb; exact c2
    exact Sub.trans (sub_rename 45 9 (noL hL _) (noL hL _)) (sub_re (SubT.cons (lk_eq rfl (by first | rfl | simp)) (SubT.cons (lk_eq rfl (by first | rfl | simp)) (SubT.cons (lk_eq rfl (by first | rfl | simp)) (SubT.cons (lk_eq rfl (by first | rfl | simp)) (SubT.cons (lk_eq rfl (by first | rfl | simp)) (SubT.cons (lk_eq rfl (by first | rfl | simp)) (SubT.cons (lk_eq rfl (by first | rfl | simp)) (SubT.nil)))))))) (SubO.cons (ok_eq rfl (by rfl)) (SubO.cons (ok_eq rfl (by rfl)) (SubO.cons (ok_eq rfl (by rw [take_snoc hu, subB, subB, List.map_append, bdDs, bdDs, List.map_append]; rfl)) (SubO.nil)))) rfl rfl (noL' (noL hL) _))
  try simp only [↓cqA, cqB] at c1
  have hk2 : l.take k = l := List.take_of_length_le (by omega)
  rw [hk2]
  have hgood : goodB [⟨name, t⟩] l = true := List.all_eq_true.2 fun b hb => by
    obtain ⟨j, hj⟩ := List.getElem?_of_mem hb
    simpa using hp.2 j b (by have := (List.getElem?_eq_some_iff.1 hj).1; omega) hj
  have hris := subB_ris [⟨name, t⟩] hl.ris
  have hsl := subB_length [⟨name, t⟩] l
  have hbl := bdDs_length (subB [⟨name, t⟩] l)
  have hpl := posB_le (subB [⟨name, t⟩] l) name
  refine awp_exit ?_; refine thenQ_exit (thenQ_exit (inQ_hit ?_)); refine thenQ_nil ?_; refine awp_seq ?_; refine awp_region ?_; refine awps_stp0 rfl rfl (by decide) (stp_move (.inl rfl) rfl) ?_; refine awps_stp0 rfl rfl (by decide) (stp_move (.inl rfl) rfl) ?_
  refine awps_call (avs := [_, _]) true rfl rfl rfl (by decide) en_bind_find rfl rfl (find_ok (subB [⟨name, t⟩] l) name hris (by omega)) rfl rfl ?_; refine awps_stp0 rfl rfl (by decide) (stp_move (.inl rfl) rfl) ?_; refine awps_stp0 rfl rfl (by decide) (stp_extract rfl rfl rfl) ?_; refine awps_stp0 rfl rfl (by decide) (stp_extract rfl rfl rfl) ?_
  refine awps_stp0 rfl rfl (by decide) (stp_move (.inr rfl) rfl) ?_; refine awps_stp0 rfl rfl (by decide) (stp_move (.inr rfl) rfl) ?_; refine awps_nil ?_; refine thenQ_nil ?_; refine awp_seq ?_; refine awp_region ?_; refine awps_stp0 rfl rfl (by decide) (stp_move (.inl rfl) rfl) ?_; refine awps_stp0 rfl rfl (by decide) (stp_move (.inl rfl) rfl) ?_; refine awps_stp0 rfl rfl (by decide) (stp_move (.inl rfl) rfl) ?_; refine awps_stp0 rfl rfl (by decide) (stp_load_all rfl tf_api_Term rfl rfl rfl rfl) ?_
  refine awps_call (avs := [_]) true rfl rfl rfl (by decide) en_term_Own rfl rfl (key) rfl rfl ?_; refine awps_stp0 rfl rfl (by decide) (stp_build rfl zv_api_Bind rfl pl_api_Bind rfl rfl) ?_; refine awps_stp1 rfl rfl (by decide) (stp_buildSlice 59 rfl sl_S_api_Bind zv_api_Bind rfl rfl (by decide) (by decide) (by decide) rfl rfl rfl) rfl ?_; refine awps_rowd 59 true 1 rfl rfl rfl rfl ?_; refine awps_via ⟨[(60, .row 9)], [(9, .rowd 40 5 true (ins (bdDs (subB [⟨name, t⟩] l)) (posB (subB [⟨name, t⟩] l) name) (bdD ⟨name, t⟩)))]⟩ (fun Q2 K => ?_) ?_
  · refine awps_sub (sub_re (T1 := [(53, .row 9), (54, iv (posB (subB [⟨name, t⟩] l) name : Int)), (59, .row 59)]) (O1 := [(9, .rowd 40 5 true (bdDs (subB [⟨name, t⟩] l))), (59, .rowd 40 5 true [bdD ⟨name, t⟩])]) (SubT.cons rfl (SubT.cons rfl (SubT.cons rfl SubT.nil))) (SubO.cons rfl (SubO.cons rfl SubO.nil)) rfl rfl (noL' (noL hL) _)) ?_
    refine awps_open (l := 9) rfl (by decide) (noL hL _) (fun he => ?_) (fun cap h1 h2 => ?_)
    · have hp0 : posB (subB [⟨name, t⟩] l) name = 0 := by rw [he] at hbl; simp at hbl; omega
      rw [hp0] at K ⊢
      rw [he] at K
      refine awps_callT (avs := [_, _, _]) rfl rfl rfl (by decide) en_slices_Insert_api_Bind_api_Bind rfl rfl (InsertNil_bd9_ok true (bdD ⟨name, t⟩) rfl) rfl (passT (.cons rfl trivial rfl .nil)) (by rintro r O' ⟨_, rfl⟩; exact frB rfl) ?_
      rintro r O' ⟨rfl, rfl⟩
      exact awps_sub (Sub.trans (sub_rename 200 9 (noL hL _) (noL hL _)) (sub_re (SubT.cons rfl SubT.nil) (SubO.cons rfl SubO.nil) rfl rfl (noL' (noL hL) _))) K
    · refine awps_callT (avs := [_, _, _]) rfl rfl rfl (by decide) en_slices_Insert_api_Bind_api_Bind rfl rfl (Insert_bd9_ok true _ (bdD ⟨name, t⟩) (posB (subB [⟨name, t⟩] l) name) cap (by omega) h1 h2 (fun x hx => by obtain ⟨b, _, rfl⟩ := List.mem_map.1 hx; rfl) rfl (by omega)) rfl (passT (.cons rfl trivial rfl (.cons rfl trivial rfl .nil))) (by rintro r O' ⟨junk, ⟨_, _, rfl⟩ | ⟨cap', _, _, rfl⟩⟩ <;> exact frB rfl) ?_
      rintro r O' ⟨junk, ⟨rfl, hj, rfl⟩ | ⟨cap', rfl, hj, rfl⟩⟩
      · exact awps_sub (Sub.trans (sub_close (l := 9) (cap := cap) (n := (bdDs (subB [⟨name, t⟩] l)).length + 1) (ins (bdDs (subB [⟨name, t⟩] l)) (posB (subB [⟨name, t⟩] l) name) (bdD ⟨name, t⟩)) rfl (noL hL _) ⟨junk, rfl⟩ (by rw [ins_length _ _ _ (by omega)]) (by rw [hj]; simp)) (sub_re (SubT.cons (lk_eq rfl (by simp [AV.rp, clV])) SubT.nil) (SubO.cons rfl SubO.nil) rfl rfl (noL' (noL hL) _))) K
      · exact awps_sub (Sub.trans (sub_close (l := 200) (cap := cap') (n := (bdDs (subB [⟨name, t⟩] l)).length + 1) (ins (bdDs (subB [⟨name, t⟩] l)) (posB (subB [⟨name, t⟩] l) name) (bdD ⟨name, t⟩)) rfl (noL hL _) ⟨junk, rfl⟩ (by rw [ins_length _ _ _ (by omega)]) (by rw [hj]; simp)) (Sub.trans (sub_re (T1 := [(60, .row 200)]) (O1 := [(200, _)]) (SubT.cons (lk_eq rfl (by simp [AV.rp, clV])) SubT.nil) (SubO.cons rfl SubO.nil) rfl rfl (noL' (noL hL) _)) (Sub.trans (sub_rename 200 9 (noL hL _) (noL hL _)) (sub_re (SubT.cons rfl SubT.nil) (SubO.cons rfl SubO.nil) rfl rfl (noL' (noL hL) _))))) K
  refine awps_stp0 rfl rfl (by decide) (stp_move (.inr rfl) rfl) ?_; refine awps_stp0 rfl rfl (by decide) (stp_move (.inr rfl) rfl) ?_; refine awps_sub (sub_freeze (l := 9) rfl (by decide) (noL hL _) rfl rfl) ?_; refine awps_nil ?_; refine thenQ_nil ?_; refine awp_ret ?_
  -- leaf 0F1F
  refine ret0 (noL hL) (.inl rfl) (resAs_tmp rfl (resAs_tmp rfl (resAs_nil))) ?_ ?_
  · rfl
  refine ⟨.inr ?_, rfl⟩
  have e : bdDs (ins (subB [⟨name, t⟩] l) (posB l name) ⟨name, t⟩) = ins (bdDs (subB [⟨name, t⟩] l)) (posB (subB [⟨name, t⟩] l) name) (bdD ⟨name, t⟩) := by
    rw [subB_pos, bdDs, ins_map]; rfl
  rw [standL, standE, if_neg (by simp [hgood]; omega), if_neg (by simp [hgood]; omega), e]
  rfl
end Go.Proofs.YtdecgkhdbfgldaaGreat

set_option linter.unusedVariables false
set_option linter.unusedSimpArgs false
set_option maxRecDepth 8000
namespace Go.Proofs.YtdecgkhdbfgldaaGreat
open Go
theorem ins_ris {x : List Bd} {y : Bd} (hr : RisB x) (hh : hasB x y.name = false) : RisB (ins x (posB x y.name) y) := by
  obtain ⟨h1, h2⟩ := posB_spec y.name x
  have hno : ∀ b ∈ x, b.name ≠ y.name := fun b hb e => by
    have : hasB x y.name = true := List.any_eq_true.2 ⟨b, hb, by simpa using e⟩
    rw [hh] at this; cases this
  have hle := posB_le x y.name
  unfold RisB ins
  rw [List.pairwise_append]
  refine ⟨List.Pairwise.sublist (List.take_sublist _ _) hr, List.pairwise_cons.2 ⟨fun b hb => ?_, List.Pairwise.sublist (List.drop_sublist _ _) hr⟩, fun a ha b hb => ?_⟩
  · obtain ⟨j, hj⟩ := List.getElem?_of_mem hb
    rw [List.getElem?_drop] at hj
    have hpos : posB x y.name < x.length := by have := (List.getElem?_eq_some_iff.1 hj).1; omega
    obtain ⟨c, hc⟩ := get_of_lt (l := x) (k := posB x y.name) hpos
    have h3 := h2 c hc
    have h4 : ltS y.name c.name = true := by
      rcases ltS_tri c.name y.name with h | h | h
      · rw [h] at h3; cases h3
      · exact absurd h (hno c (List.mem_of_getElem? hc))
      · exact h
    rcases Nat.eq_zero_or_pos j with rfl | hjp
    · rw [Nat.add_zero, hc] at hj; cases hj; exact h4
    · exact ltS_trans h4 (hr.lt (by omega) hc hj)
  · obtain ⟨i, hi⟩ := List.getElem?_of_mem ha
    rw [List.getElem?_take] at hi
    split at hi
    · rename_i hip
      have h3 := h1 i a hip hi
      rcases List.mem_cons.1 hb with rfl | hb
      · exact h3
      · obtain ⟨j, hj⟩ := List.getElem?_of_mem hb
        rw [List.getElem?_drop] at hj
        exact hr.lt (by omega) hi hj
    · cases hi
end Go.Proofs.YtdecgkhdbfgldaaGreat

set_option linter.unusedVariables false
set_option linter.unusedSimpArgs false
set_option maxRecDepth 8000
namespace Go.Proofs.YtdecgkhdbfgldaaGreat
open Go
def occB (t : Tm) (s : ByteArray) : Bool := (noteL 5 [t]).any (fun n => decide (n = s))
def standsL (l : List Bd) (s : ByteArray) (t : Tm) : List Bd := if occB t s = true then [] else standL l s t
def standsE (l : List Bd) (s : ByteArray) (t : Tm) : Int := if occB t s = true then 3 else standE l s t
end Go.Proofs.YtdecgkhdbfgldaaGreat

set_option linter.unusedVariables false
set_option linter.unusedSimpArgs false
set_option maxRecDepth 8000
namespace Go.Proofs.YtdecgkhdbfgldaaGreat
open Go
def prD (p : Tm × Tm) : List D := tmD p.1 ++ tmD p.2
def prDs (l : List (Tm × Tm)) : List (List D) := l.map prD
abbrev prA (l : List (Tm × Tm)) : AV := .dat false 8 (prDs l)
theorem prDs_length (l : List (Tm × Tm)) : (prDs l).length = l.length := by simp [prDs]
theorem prDs_get {l : List (Tm × Tm)} {i : Nat} {p : Tm × Tm} (h : l[i]? = some p) : (prDs l)[i]? = some (prD p) := by simp [prDs, h]
theorem prDs_snoc (l : List (Tm × Tm)) (p : Tm × Tm) : prDs (l ++ [p]) = prDs l ++ [prD p] := by simp [prDs]
def argsB (a b : Tm) : Bool := decide (a.kind = b.kind) && decide (a.name = b.name) && decide (a.n = b.n) && decide (a.args.length = b.args.length)
def argsL (a b : Tm) : List (Tm × Tm) := if argsB a b = true then a.args.zip b.args else []
theorem zip_snoc {α β : Type} {l : List α} {m : List β} {k : Nat} {u : α} {v : β} (hu : l[k]? = some u) (hv : m[k]? = some v) : (l.zip m).take (k + 1) = (l.zip m).take k ++ [(u, v)] := by
  refine take_snoc ?_
  rw [List.getElem?_zip_eq_some]; exact ⟨hu, hv⟩
theorem args_ok (a b : Tm) (ha : a.wf) (hb : b.wf) (ha0 : a.args.length ≤ 1000) : PF 250 [tmA false a, tmA false b] (.tup [prA (argsL a b), bv (argsB a b)]) := by
  have hla := tmDs_length a.args
  have hlb := tmDs_length b.args
  have hal := ha.2.2.2.1
  have hbl := hb.2.2.2.1
  refine AC_leP (Post := fun r O => (argsB a b = false ∧ r = .tup [.imm (.slice none 0 0), bv false] ∨ r = .tup [prA (argsL a b), bv (argsB a b)]) ∧ O = []) ?_ (fun r O' h => by
    obtain ⟨⟨h1, rfl⟩ | rfl, rfl⟩ := h
    · exact ⟨_, .tup (.cons (.nil (f := false) (k := 8)) (.cons .refl .nil)), by rw [argsL, if_neg (by simp [h1]), h1]; rfl, rfl⟩
    · exact ⟨_, .refl, rfl, rfl⟩)
  refine AC_intro Tryz.func250 rfl Tryz.ntmps250 (Nat.le_of_ble_eq_true rfl) fun c hL hQ hDD => ?_; refine awp_seq ?_; refine awp_region ?_; refine awps_stp1 rfl rfl (by decide) (stp_box 2 rfl rfl rfl) rfl ?_; refine awps_stp1 rfl rfl (by decide) (stp_box 3 rfl rfl rfl) rfl ?_; refine awps_stp0 rfl rfl (by decide) (stp_move (.inr rfl) rfl) ?_; refine awps_stp0 rfl rfl (by decide) (stp_move (.inr rfl) rfl) ?_; refine awps_nil ?_; refine thenQ_nil ?_; refine awp_seq ?_; refine awp_seq ?_; refine awp_region ?_; refine awps_stp0 rfl rfl (by decide) (stp_fieldAddr rfl fo_api_Term_0 rfl) ?_
  refine awps_stp0 rfl rfl (by decide) (stp_load rfl tf_int rfl rfl rfl rfl rfl) ?_; refine awps_stp0 rfl rfl (by decide) (stp_fieldAddr rfl fo_api_Term_0 rfl) ?_; refine awps_stp0 rfl rfl (by decide) (stp_load rfl tf_int rfl rfl rfl rfl rfl) ?_; refine awps_stp0 rfl rfl (by decide) (stp_binI rfl rfl rfl rfl) ?_; refine awps_stp0 rfl rfl (by decide) (stp_move (.inl rfl) rfl) ?_; refine awps_split 12 rfl (fun g12 => ?_) (fun g12 => ?_)
  · try simp only [↓cqA, cqB] at g12
    refine awps_gs rfl rfl rfl rfl (by decide) rfl (by decide) ?_; refine awps_gs rfl rfl rfl rfl (by decide) rfl (by decide) ?_; refine awps_gs rfl rfl rfl rfl (by decide) rfl (by decide) ?_; refine awps_gs rfl rfl rfl rfl (by decide) rfl (by decide) ?_; refine awps_gs rfl rfl rfl rfl (by decide) rfl (by decide) ?_; refine awps_stp0 rfl rfl (by decide) (stp_pick rfl rfl rfl) ?_
    refine awps_stp0 rfl rfl (by decide) (stp_move (.inl rfl) rfl) ?_; refine awps_gs rfl rfl rfl rfl (by decide) rfl (by decide) ?_; refine awps_gs rfl rfl rfl rfl (by decide) rfl (by decide) ?_; refine awps_gs rfl rfl rfl rfl (by decide) rfl (by decide) ?_; refine awps_gs rfl rfl rfl rfl (by decide) rfl (by decide) ?_; refine awps_gs rfl rfl rfl rfl (by decide) rfl (by decide) ?_
    refine awps_stp0 rfl rfl (by decide) (stp_pick rfl rfl rfl) ?_; refine awps_stp0 rfl rfl (by decide) (stp_move (.inl rfl) rfl) ?_; refine awps_gs rfl rfl rfl rfl (by decide) rfl (by decide) ?_; refine awps_gs rfl rfl rfl rfl (by decide) rfl (by decide) ?_; refine awps_gs rfl rfl rfl rfl (by decide) rfl (by decide) ?_; refine awps_gs rfl rfl rfl rfl (by decide) rfl (by decide) ?_
    refine awps_gs rfl rfl rfl rfl (by decide) rfl (by decide) ?_; refine awps_gs rfl rfl rfl rfl (by decide) rfl (by decide) ?_; refine awps_gs rfl rfl rfl rfl (by decide) rfl (by decide) ?_; refine awps_stp0 rfl rfl (by decide) (stp_pick rfl rfl rfl) ?_; refine awps_nil ?_; refine thenQ_nil ?_; refine awp_condT rfl ?_; refine awp_seq ?_; refine awp_region ?_; refine awps_stp0 rfl rfl (by decide) (stp_move (.inr rfl) rfl) ?_; refine awps_stp0 rfl rfl (by decide) (stp_move (.inr rfl) rfl) ?_; refine awps_nil ?_; refine thenQ_nil ?_; refine awp_ret ?_; refine thenQ_ret (?_)
    -- leaf g12T
    refine ret0 (noL hL) (.inl rfl) (resAs_tmp rfl (resAs_tmp rfl (resAs_nil))) ?_ ?_
    · rfl
    first | exact ⟨.inl ⟨by simp_all [argsB] <;> omega, rfl⟩, rfl⟩ | exact ⟨.inr (by rw [List.take_of_length_le (by omega), argsL, if_pos hab, hab]; rfl), rfl⟩
  try simp only [↓cqA, cqB] at g12
  refine awps_g0 rfl rfl rfl (by decide) rfl (by decide) (stp_fieldAddr rfl fo_api_Term_1 rfl) ?_; refine awps_g0 rfl rfl rfl (by decide) rfl (by decide) (stp_load rfl tf_string rfl rfl rfl rfl rfl) ?_; refine awps_g0 rfl rfl rfl (by decide) rfl (by decide) (stp_fieldAddr rfl fo_api_Term_1 rfl) ?_; refine awps_g0 rfl rfl rfl (by decide) rfl (by decide) (stp_load rfl tf_string rfl rfl rfl rfl rfl) ?_
  refine awps_g0 rfl rfl rfl (by decide) rfl (by decide) (stp_binS rfl rfl rfl rfl) ?_; refine awps_stp0 rfl rfl (by decide) (stp_pick rfl rfl rfl) ?_; refine awps_stp0 rfl rfl (by decide) (stp_move (.inl rfl) rfl) ?_; refine awps_split 19 rfl (fun g19 => ?_) (fun g19 => ?_)
  · try simp only [↓cqA, cqB] at g19
    refine awps_gs rfl rfl rfl rfl (by decide) rfl (by decide) ?_; refine awps_gs rfl rfl rfl rfl (by decide) rfl (by decide) ?_; refine awps_gs rfl rfl rfl rfl (by decide) rfl (by decide) ?_; refine awps_gs rfl rfl rfl rfl (by decide) rfl (by decide) ?_; refine awps_gs rfl rfl rfl rfl (by decide) rfl (by decide) ?_; refine awps_stp0 rfl rfl (by decide) (stp_pick rfl rfl rfl) ?_
    refine awps_stp0 rfl rfl (by decide) (stp_move (.inl rfl) rfl) ?_; refine awps_gs rfl rfl rfl rfl (by decide) rfl (by decide) ?_; refine awps_gs rfl rfl rfl rfl (by decide) rfl (by decide) ?_; refine awps_gs rfl rfl rfl rfl (by decide) rfl (by decide) ?_; refine awps_gs rfl rfl rfl rfl (by decide) rfl (by decide) ?_; refine awps_gs rfl rfl rfl rfl (by decide) rfl (by decide) ?_
    refine awps_gs rfl rfl rfl rfl (by decide) rfl (by decide) ?_; refine awps_gs rfl rfl rfl rfl (by decide) rfl (by decide) ?_; refine awps_stp0 rfl rfl (by decide) (stp_pick rfl rfl rfl) ?_; refine awps_nil ?_; refine thenQ_nil ?_; refine awp_condT rfl ?_; refine awp_seq ?_; refine awp_region ?_; refine awps_stp0 rfl rfl (by decide) (stp_move (.inr rfl) rfl) ?_; refine awps_stp0 rfl rfl (by decide) (stp_move (.inr rfl) rfl) ?_; refine awps_nil ?_; refine thenQ_nil ?_; refine awp_ret ?_; refine thenQ_ret (?_)
    -- leaf g12Fg19T
    refine ret0 (noL hL) (.inl rfl) (resAs_tmp rfl (resAs_tmp rfl (resAs_nil))) ?_ ?_
    · rfl
    first | exact ⟨.inl ⟨by simp_all [argsB] <;> omega, rfl⟩, rfl⟩ | exact ⟨.inr (by rw [List.take_of_length_le (by omega), argsL, if_pos hab, hab]; rfl), rfl⟩
  try simp only [↓cqA, cqB] at g19
  refine awps_g0 rfl rfl rfl (by decide) rfl (by decide) (stp_fieldAddr rfl fo_api_Term_2 rfl) ?_; refine awps_g0 rfl rfl rfl (by decide) rfl (by decide) (stp_load rfl tf_int rfl rfl rfl rfl rfl) ?_; refine awps_g0 rfl rfl rfl (by decide) rfl (by decide) (stp_fieldAddr rfl fo_api_Term_2 rfl) ?_; refine awps_g0 rfl rfl rfl (by decide) rfl (by decide) (stp_load rfl tf_int rfl rfl rfl rfl rfl) ?_
  refine awps_g0 rfl rfl rfl (by decide) rfl (by decide) (stp_binI rfl rfl rfl rfl) ?_; refine awps_stp0 rfl rfl (by decide) (stp_pick rfl rfl rfl) ?_; refine awps_stp0 rfl rfl (by decide) (stp_move (.inl rfl) rfl) ?_; refine awps_split 26 rfl (fun g26 => ?_) (fun g26 => ?_)
  · try simp only [↓cqA, cqB] at g26
    refine awps_gs rfl rfl rfl rfl (by decide) rfl (by decide) ?_; refine awps_gs rfl rfl rfl rfl (by decide) rfl (by decide) ?_; refine awps_gs rfl rfl rfl rfl (by decide) rfl (by decide) ?_; refine awps_gs rfl rfl rfl rfl (by decide) rfl (by decide) ?_; refine awps_gs rfl rfl rfl rfl (by decide) rfl (by decide) ?_; refine awps_gs rfl rfl rfl rfl (by decide) rfl (by decide) ?_
    refine awps_gs rfl rfl rfl rfl (by decide) rfl (by decide) ?_; refine awps_stp0 rfl rfl (by decide) (stp_pick rfl rfl rfl) ?_; refine awps_nil ?_; refine thenQ_nil ?_; refine awp_condT rfl ?_; refine awp_seq ?_; refine awp_region ?_; refine awps_stp0 rfl rfl (by decide) (stp_move (.inr rfl) rfl) ?_; refine awps_stp0 rfl rfl (by decide) (stp_move (.inr rfl) rfl) ?_; refine awps_nil ?_; refine thenQ_nil ?_; refine awp_ret ?_; refine thenQ_ret (?_)
    -- leaf g12Fg19Fg26T
    refine ret0 (noL hL) (.inl rfl) (resAs_tmp rfl (resAs_tmp rfl (resAs_nil))) ?_ ?_
    · rfl
    first | exact ⟨.inl ⟨by simp_all [argsB] <;> omega, rfl⟩, rfl⟩ | exact ⟨.inr (by rw [List.take_of_length_le (by omega), argsL, if_pos hab, hab]; rfl), rfl⟩
  try simp only [↓cqA, cqB] at g26
  refine awps_g0 rfl rfl rfl (by decide) rfl (by decide) (stp_fieldAddr rfl fo_api_Term_3 rfl) ?_; refine awps_g0 rfl rfl rfl (by decide) rfl (by decide) (stp_load rfl tf_S_api_Term rfl rfl rfl rfl rfl) ?_; refine awps_g0 rfl rfl rfl (by decide) rfl (by decide) (stp_len_dat rfl sl_S_api_Term rfl) ?_; refine awps_g0 rfl rfl rfl (by decide) rfl (by decide) (stp_fieldAddr rfl fo_api_Term_3 rfl) ?_; refine awps_g0 rfl rfl rfl (by decide) rfl (by decide) (stp_load rfl tf_S_api_Term rfl rfl rfl rfl rfl) ?_
  refine awps_g0 rfl rfl rfl (by decide) rfl (by decide) (stp_len_dat rfl sl_S_api_Term rfl) ?_; refine awps_g0 rfl rfl rfl (by decide) rfl (by decide) (stp_binI rfl rfl rfl rfl) ?_; refine awps_stp0 rfl rfl (by decide) (stp_pick rfl rfl rfl) ?_; refine awps_nil ?_; refine thenQ_nil ?_; refine awp_cond rfl (fun c0 => ?_) (fun c0 => ?_)
  · try simp only [↓cqA, cqB] at c0
    refine awp_seq ?_; refine awp_region ?_; refine awps_stp0 rfl rfl (by decide) (stp_move (.inr rfl) rfl) ?_; refine awps_stp0 rfl rfl (by decide) (stp_move (.inr rfl) rfl) ?_; refine awps_nil ?_; refine thenQ_nil ?_; refine awp_ret ?_; refine thenQ_ret (?_)
    -- leaf g12Fg19Fg26F0T
    refine ret0 (noL hL) (.inl rfl) (resAs_tmp rfl (resAs_tmp rfl (resAs_nil))) ?_ ?_
    · rfl
    first | exact ⟨.inl ⟨by simp_all [argsB] <;> omega, rfl⟩, rfl⟩ | exact ⟨.inr (by rw [List.take_of_length_le (by omega), argsL, if_pos hab, hab]; rfl), rfl⟩
  try simp only [↓cqA, cqB] at c0
  have hab : argsB a b = true := by simp_all [argsB] <;> omega
  have hlen : a.args.length = b.args.length := by simp only [argsB, Bool.and_eq_true, decide_eq_true_eq] at hab; exact hab.2
  have hzl : (a.args.zip b.args).length = a.args.length := by rw [List.length_zip]; omega
  refine awp_skip ?_; refine thenQ_nil ?_; refine awp_seq ?_; refine awp_seq ?_; refine awp_region ?_; refine awps_stp0 rfl rfl (by decide) (stp_fieldAddr rfl fo_api_Term_3 rfl) ?_; refine awps_stp0 rfl rfl (by decide) (stp_load rfl tf_S_api_Term rfl rfl rfl rfl rfl) ?_; refine awps_stp0 rfl rfl (by decide) (stp_len_dat rfl sl_S_api_Term rfl) ?_; refine awps_stp0 rfl rfl (by decide) (stp_move (.inl rfl) rfl) ?_; refine awps_nil ?_; refine thenQ_nil ?_; refine awp_block ?_
  refine awp_while (a.args.length) (fun k => k ≤ a.args.length) (fun k => ⟨[(2, .ptr 2 0), (3, .ptr 3 0), (4, .row 4), (37, iv (tmDs a.args).length), (38, iv (k : Int))], [(2, .box (lift false (tmD a))), (3, .box (lift false (tmD b))), (4, .rowd 251 8 false (prDs ((a.args.zip b.args).take k)))]⟩) (by omega) ?_ (fun k hk hp => ?_)
  · exact Sub.trans (sub_nil_row (t := 4) (l := 4) 251 8 false rfl rfl) (sub_re (SubT.cons (lk_eq rfl (by first | rfl | simp)) (SubT.cons (lk_eq rfl (by first | rfl | simp)) (SubT.cons (lk_eq rfl (by first | rfl | simp)) (SubT.cons (lk_eq rfl (by first | rfl | simp)) (SubT.cons (lk_eq rfl (by first | rfl | simp)) (SubT.nil)))))) (SubO.cons (ok_eq rfl (by rfl)) (SubO.cons (ok_eq rfl (by rfl)) (SubO.cons (ok_eq rfl (by rfl)) (SubO.nil)))) rfl rfl (noL' (noL hL) _))
  have hl2 : (prDs ((a.args.zip b.args).take k)).length ≤ a.args.length := by rw [prDs_length, List.length_take]; omega
  refine awp_seq ?_; refine awp_region ?_; refine awps_stp0 rfl rfl (by decide) (stp_binI rfl rfl rfl rfl) ?_; refine awps_nil ?_; refine thenQ_nil ?_; refine awp_seq ?_; refine awp_cond rfl (fun c1 => ?_) (fun c1 => ?_)
  · try simp only [↓cqA, cqB] at c1
    obtain ⟨u, hu⟩ := get_of_lt (l := a.args) (k := k) (by omega)
    obtain ⟨v, hv⟩ := get_of_lt (l := b.args) (k := k) (by omega)
    refine awp_skip ?_; refine thenQ_nil ?_; refine awp_seq ?_; refine awp_block ?_; refine awp_seq ?_; refine awp_region ?_; refine awps_stp0 rfl rfl (by decide) (stp_move (.inl rfl) rfl) ?_; refine awps_stp0 rfl rfl (by decide) (stp_move (.inr rfl) rfl) ?_; refine awps_nil ?_; refine thenQ_nil ?_; refine awp_drawG 13 mixed rfl rfl rfl rfl ?_; refine MGo_c0 rfl (by decide) (.run rfl (stp_move (.inl rfl) rfl)) ?_; refine MGo_c0 rfl (by decide) (.run rfl (stp_fieldAddr rfl fo_api_Term_3 rfl)) ?_; refine MGo_c0 rfl (by decide) (.run rfl (stp_load rfl tf_S_api_Term rfl rfl rfl rfl rfl)) ?_
    refine MGo_c0 rfl (by decide) (.run rfl (stp_move (.inl rfl) rfl)) ?_; refine MGo_c0 rfl (by decide) (.run rfl (stp_indexAddr rfl sl_S_api_Term rfl rfl (by omega) (tmDs_get hu))) ?_; refine MGo_c0 rfl (by decide) (.run rfl (stp_load_elpa rfl tf_api_Term rfl rfl)) ?_; refine MGo_c0 rfl (by decide) (.run rfl (stp_fieldAddr rfl fo_api_Term_3 rfl)) ?_; refine MGo_c0 rfl (by decide) (.run rfl (stp_load rfl tf_S_api_Term rfl rfl rfl rfl rfl)) ?_; refine MGo_c0 rfl (by decide) (.run rfl (stp_move (.inl rfl) rfl)) ?_
    refine MGo_c0 rfl (by decide) (.run rfl (stp_indexAddr rfl sl_S_api_Term rfl rfl (by omega) (tmDs_get hv))) ?_; refine MGo_c0 rfl (by decide) (.run rfl (stp_load_elpa rfl tf_api_Term rfl rfl)) ?_; refine MGo_c0 rfl (by decide) (.run rfl (stp_build_arr rfl zv_unify_pair rfl (show arB Tryz.prog 251 2 35 4 = true by kernel_rfl) rfl rfl)) ?_; refine MGo_c1 rfl (by decide) (.run rfl (stp_buildSlice 53 rfl sl_S_unify_pair zv_unify_pair rfl rfl (by decide) (by decide) (by decide) rfl rfl rfl)) ?_; refine MGo_nil ⟨rfl, rfl, ?_⟩
    refine awps_u rfl rfl (by decide) (stpU_append1 54 ta_S_unify_pair rfl rfl rfl rfl rfl rfl rfl rfl (noL hL _) (by omega) rfl) rfl ?_; refine awps_stp0 rfl rfl (by decide) (stp_move (.inr rfl) rfl) ?_; refine awps_nil ?_; refine inQ_nil ?_; refine thenQ_nil ?_; refine awp_region ?_; refine awps_stp0 rfl rfl (by decide) (stp_add rfl rfl rfl (by omega)) ?_; refine awps_stp0 rfl rfl (by decide) (stp_move (.inl rfl) rfl) ?_; refine awps_nil ?_; refine thenQ_nil ?_; refine ⟨?_, ?_, ?_⟩
    · skip
      omega
    · skip
      omega
    exact Sub.trans (sub_rename 54 4 (noL hL _) (noL hL _)) (sub_re (SubT.cons (lk_eq rfl (by first | rfl | simp)) (SubT.cons (lk_eq rfl (by first | rfl | simp)) (SubT.cons (lk_eq rfl (by first | rfl | simp)) (SubT.cons (lk_eq rfl (by first | rfl | simp)) (SubT.cons (lk_eq rfl (by first | rfl | simp)) (SubT.nil)))))) (SubO.cons (ok_eq rfl (by rfl)) (SubO.cons (ok_eq rfl (by rfl)) (SubO.cons (ok_eq rfl (by rw [zip_snoc hu hv, prDs_snoc]; rfl)) (SubO.nil)))) rfl rfl (noL' (noL hL) _))
  try simp only [↓cqA, cqB] at c1
  refine awp_exit ?_; refine thenQ_exit (thenQ_exit (inQ_hit ?_)); refine thenQ_nil ?_; refine awp_seq ?_; refine awp_sub (sub_freeze (l := 4) rfl (by decide) (noL hL _) rfl rfl) ?_; refine awp_region ?_; refine awps_stp0 rfl rfl (by decide) (stp_move (.inl rfl) rfl) ?_; refine awps_stp0 rfl rfl (by decide) (stp_move (.inr rfl) rfl) ?_; refine awps_stp0 rfl rfl (by decide) (stp_move (.inr rfl) rfl) ?_; refine awps_nil ?_; refine thenQ_nil ?_; refine awp_ret ?_
  -- leaf g12Fg19Fg26F0F1F
  refine ret0 (noL hL) (.inl rfl) (resAs_tmp rfl (resAs_tmp rfl (resAs_nil))) ?_ ?_
  · rfl
  first | exact ⟨.inl ⟨by simp_all [argsB] <;> omega, rfl⟩, rfl⟩ | exact ⟨.inr (by rw [List.take_of_length_le (by omega), argsL, if_pos hab, hab]; rfl), rfl⟩
theorem flat_le {α : Type} (rs : List (List α)) (k : Nat) : (rs.take k).flatten.length ≤ rs.flatten.length := by
  have := congrArg (fun l : List (List α) => l.flatten.length) (List.take_append_drop k rs)
  simp only [List.flatten_append, List.length_append] at this
  omega
end Go.Proofs.YtdecgkhdbfgldaaGreat

set_option linter.unusedVariables false
set_option linter.unusedSimpArgs false
set_option maxRecDepth 8000
namespace Go.Proofs.YtdecgkhdbfgldaaGreat
open Go
def oneR (l : List Bd) (p : Tm × Tm) : List Bd × List (Tm × Tm) × Int :=
  if intoE l p.1 ≠ 0 then ([], [], intoE l p.1) else
  if intoE l p.2 ≠ 0 then ([], [], intoE l p.2) else
  if (putT l p.1).kind = 1 ∧ (putT l p.2).kind = 1 ∧ (putT l p.1).name = (putT l p.2).name then (l, [], 0) else
  if (putT l p.1).kind = 1 ∧ ((putT l p.2).kind ≠ 1 ∨ ltS (putT l p.2).name (putT l p.1).name = true) then (standsL l (putT l p.1).name (putT l p.2), [], standsE l (putT l p.1).name (putT l p.2)) else
  if (putT l p.2).kind = 1 then (standsL l (putT l p.2).name (putT l p.1), [], standsE l (putT l p.2).name (putT l p.1)) else
  if argsB (putT l p.1) (putT l p.2) = true then (l, argsL (putT l p.1) (putT l p.2), 0) else ([], [], 3)
end Go.Proofs.YtdecgkhdbfgldaaGreat

set_option linter.unusedVariables false
set_option linter.unusedSimpArgs false
namespace Go.Proofs.YtdecgkhdbfgldaaGreat
open Go
mutual
def Tm.sub (g : ByteArray → Tm) : Tm → Tm
  | ⟨k, nm, n, l0⟩ => if k = 1 then g nm else ⟨k, nm, n, Tm.subs g l0⟩
def Tm.subs (g : ByteArray → Tm) : List Tm → List Tm
  | [] => []
  | t :: ts => Tm.sub g t :: Tm.subs g ts
end
mutual
def Tm.occ (y : ByteArray) : Tm → Prop
  | ⟨k, nm, _, l0⟩ => (k = 1 ∧ nm = y) ∨ Tm.occs y l0
def Tm.occs (y : ByteArray) : List Tm → Prop
  | [] => False
  | t :: ts => Tm.occ y t ∨ Tm.occs y ts
end
mutual
def Tm.sz : Tm → Nat
  | ⟨_, _, _, l0⟩ => 1 + Tm.szs l0
def Tm.szs : List Tm → Nat
  | [] => 0
  | t :: ts => Tm.sz t + Tm.szs ts
end
mutual
def Tm.shp : Tm → Prop
  | ⟨k, nm, n, l0⟩ => ((k = 1 ∧ varB nm = true ∧ n = 0 ∧ l0 = []) ∨ (k = 2 ∧ numB n = true ∧ nm.size = 0 ∧ l0 = []) ∨ (k = 3 ∧ nameB nm = true ∧ n = 0 ∧ l0.length ≤ 4)) ∧ Tm.shps l0
def Tm.shps : List Tm → Prop
  | [] => True
  | t :: ts => Tm.shp t ∧ Tm.shps ts
end
theorem Tm.subs_map (g : ByteArray → Tm) : ∀ l, Tm.subs g l = l.map (Tm.sub g)
  | [] => by rw [Tm.subs]; rfl
  | t :: ts => by rw [Tm.subs, Tm.subs_map g ts]; rfl
theorem Tm.sub_eq (g : ByteArray → Tm) (t : Tm) : t.sub g = if t.kind = 1 then g t.name else ⟨t.kind, t.name, t.n, t.args.map (Tm.sub g)⟩ := by
  cases t; simp only [Tm.sub, Tm.subs_map]
theorem Tm.occs_iff (y : ByteArray) : ∀ l, Tm.occs y l ↔ ∃ u ∈ l, Tm.occ y u
  | [] => by simp [Tm.occs]
  | t :: ts => by simp [Tm.occs, Tm.occs_iff y ts]
theorem Tm.occ_iff (y : ByteArray) (t : Tm) : t.occ y ↔ (t.kind = 1 ∧ t.name = y) ∨ ∃ u ∈ t.args, Tm.occ y u := by
  cases t; simp only [Tm.occ, Tm.occs_iff]
theorem Tm.szs_sum : ∀ l, Tm.szs l = (l.map Tm.sz).sum
  | [] => by simp [Tm.szs]
  | t :: ts => by simp [Tm.szs, Tm.szs_sum ts]
theorem Tm.sz_eq (t : Tm) : t.sz = 1 + (t.args.map Tm.sz).sum := by cases t; simp only [Tm.sz, Tm.szs_sum]
theorem Tm.sz_pos (t : Tm) : 1 ≤ t.sz := by rw [Tm.sz_eq]; omega
theorem Tm.shps_iff : ∀ l, Tm.shps l ↔ ∀ u ∈ l, Tm.shp u
  | [] => by simp [Tm.shps]
  | t :: ts => by simp [Tm.shps, Tm.shps_iff ts]
def Tm.top (t : Tm) : Prop := (t.kind = 1 ∧ varB t.name = true ∧ t.n = 0 ∧ t.args = []) ∨ (t.kind = 2 ∧ numB t.n = true ∧ t.name.size = 0 ∧ t.args = []) ∨ (t.kind = 3 ∧ nameB t.name = true ∧ t.n = 0 ∧ t.args.length ≤ 4)
theorem Tm.shp_iff (t : Tm) : t.shp ↔ t.top ∧ ∀ u ∈ t.args, Tm.shp u := by cases t; simp only [Tm.shp, Tm.shps_iff, Tm.top]
theorem Tm.ind {P : Tm → Prop} (h : ∀ t : Tm, (∀ u ∈ t.args, P u) → P t) (t : Tm) : P t :=
  Tm.rec (motive_1 := P) (motive_2 := fun ts => ∀ u ∈ ts, P u) (fun k nm n l0 ih => h ⟨k, nm, n, l0⟩ ih) (fun u hu => by cases hu) (fun t ts h1 h2 u hu => by
    rcases List.mem_cons.1 hu with e | hu
    · exact e ▸ h1
    · exact h2 u hu) t
theorem Tm.shp.arg {t u : Tm} (h : t.shp) (hu : u ∈ t.args) : u.shp := ((Tm.shp_iff t).1 h).2 u hu
theorem Tm.shp.var {t : Tm} (h : t.shp) (hk : t.kind = 1) : t = ⟨1, t.name, 0, []⟩ ∧ varB t.name = true := by
  have := ((Tm.shp_iff t).1 h).1
  cases t
  simp only [Tm.top] at this hk ⊢
  subst hk
  rcases this with ⟨_, h2, h3, h4⟩ | ⟨h1, _⟩ | ⟨h1, _⟩
  · subst h3 h4; exact ⟨rfl, h2⟩
  · cases h1
  · cases h1
theorem turn_sub (g : ByteArray → Tm) : ∀ (d : Nat) (t : Tm), dle d t → turnT g d t = t.sub g
  | 0, t, h => h.elim
  | d + 1, t, h => by
    rw [turnT, Tm.sub_eq]
    split
    · rfl
    · congr 1
      exact List.map_congr_left fun u hu => turn_sub g d u (h u hu)
theorem note_occ (y : ByteArray) : ∀ (d : Nat) (t : Tm), dle d t → (y ∈ noteS d t [] ↔ t.occ y)
  | 0, t, h => h.elim
  | d + 1, t, h => by
    rw [noteS, noteL_mem d y (noteS_mem d y), Tm.occ_iff]
    have e : (∃ u, u ∈ t.args ∧ y ∈ noteS d u []) ↔ ∃ u ∈ t.args, Tm.occ y u := by
      constructor
      · rintro ⟨u, hu, hy⟩; exact ⟨u, hu, (note_occ y d u (h u hu)).1 hy⟩
      · rintro ⟨u, hu, hy⟩; exact ⟨u, hu, (note_occ y d u (h u hu)).2 hy⟩
    rw [e]
    split
    · rename_i hk; simp [hk, eq_comm]
    · rename_i hk; simp [hk]
theorem dle_mono : ∀ (d e : Nat) (t : Tm), d ≤ e → dle d t → dle e t
  | 0, _, t, _, h => h.elim
  | d + 1, 0, t, h, _ => by omega
  | d + 1, e + 1, t, h, hd => fun u hu => dle_mono d e u (by omega) (hd u hu)
theorem mayL_fwd (d : Nat) (ih : ∀ (t : Tm) (n : Int), 0 ≤ n → (mayS d t n).1 = true → t.shp ∧ dle d t ∧ (mayS d t n).2 = n - t.sz ∧ (t.sz : Int) ≤ n) : ∀ (l : List Tm) (n : Int), 0 ≤ n → (mayL (mayS d) l n).1 = true → (∀ u ∈ l, u.shp ∧ dle d u) ∧ (mayL (mayS d) l n).2 = n - ((l.map Tm.sz).sum : Nat) ∧ (((l.map Tm.sz).sum : Nat) : Int) ≤ n
  | [], n, hn, _ => by simp [mayL]; omega
  | a :: l, n, hn, h => by
    simp only [mayL] at h ⊢
    split at h
    · rename_i hb
      obtain ⟨h1, h2, h3, h4⟩ := ih a n hn hb
      obtain ⟨h5, h6, h7⟩ := mayL_fwd d ih l (mayS d a n).2 (by omega) h
      rw [if_pos hb]
      refine ⟨fun u hu => ?_, ?_, ?_⟩
      · rcases List.mem_cons.1 hu with rfl | hu
        · exact ⟨h1, h2⟩
        · exact h5 u hu
      · rw [h6, h3]; simp only [List.map_cons, List.sum_cons]; omega
      · simp only [List.map_cons, List.sum_cons]; omega
    · cases h
theorem mayS_fwd : ∀ (d : Nat) (t : Tm) (n : Int), 0 ≤ n → (mayS d t n).1 = true → t.shp ∧ dle d t ∧ (mayS d t n).2 = n - t.sz ∧ (t.sz : Int) ≤ n
  | 0, t, n, _, h => by simp [mayS] at h
  | d + 1, t, n, hn0, h => by
    rw [Tm.shp_iff, Tm.sz_eq]
    have e0 : ∀ l : List Tm, l.length = 0 → l = [] := fun l h => List.eq_nil_of_length_eq_zero h
    simp only [mayS] at h ⊢
    split at h
    · cases h
    rename_i hn
    rw [if_neg hn]
    split at h
    · rename_i hk
      rw [if_pos hk]
      simp only [Bool.and_eq_true, decide_eq_true_eq] at h
      have := e0 _ h.2
      refine ⟨⟨.inl ⟨hk, h.1.1, h.1.2, this⟩, by simp [this]⟩, fun u hu => by simp [this] at hu, ?_, ?_⟩ <;> simp [this] <;> omega
    rename_i hk1
    rw [if_neg hk1]
    split at h
    · rename_i hk
      rw [if_pos hk]
      simp only [Bool.and_eq_true, decide_eq_true_eq] at h
      have := e0 _ h.2
      refine ⟨⟨.inr (.inl ⟨hk, h.1.1, h.1.2, this⟩), by simp [this]⟩, fun u hu => by simp [this] at hu, ?_, ?_⟩ <;> simp [this] <;> omega
    rename_i hk2
    rw [if_neg hk2]
    split at h
    · rename_i hk
      rw [if_pos hk]
      split at h
      · rename_i hc
        rw [if_pos hc]
        obtain ⟨h5, h6, h7⟩ := mayL_fwd d (mayS_fwd d) t.args (n - 1) (by omega) h
        simp only [Bool.and_eq_true, decide_eq_true_eq] at hc
        refine ⟨⟨.inr (.inr ⟨hk, hc.1.1, hc.1.2, hc.2⟩), fun u hu => (h5 u hu).1⟩, fun u hu => (h5 u hu).2, ?_, ?_⟩
        · rw [h6]; omega
        · omega
      · cases h
    · cases h
theorem mayL_bwd (d : Nat) (ih : ∀ (t : Tm) (n : Int), t.shp → dle d t → (t.sz : Int) ≤ n → mayS d t n = (true, n - t.sz)) : ∀ (l : List Tm) (n : Int), (∀ u ∈ l, u.shp ∧ dle d u) → (((l.map Tm.sz).sum : Nat) : Int) ≤ n → mayL (mayS d) l n = (true, n - ((l.map Tm.sz).sum : Nat))
  | [], n, _, _ => by simp [mayL]
  | a :: l, n, h, hn => by
    simp only [List.map_cons, List.sum_cons] at hn ⊢
    have h1 := ih a n (h a (by simp)).1 (h a (by simp)).2 (by omega)
    have h2 := mayL_bwd d ih l (n - a.sz) (fun u hu => h u (by simp [hu])) (by omega)
    simp only [mayL, h1, if_true, h2]
    congr 1; omega
theorem mayS_bwd : ∀ (d : Nat) (t : Tm) (n : Int), t.shp → dle d t → (t.sz : Int) ≤ n → mayS d t n = (true, n - t.sz)
  | 0, t, n, _, h, _ => h.elim
  | d + 1, t, n, hs, hd, hn => by
    rw [Tm.shp_iff] at hs
    rw [Tm.sz_eq] at hn ⊢
    obtain ⟨ht, hs⟩ := hs
    simp only [mayS]
    rw [if_neg (by omega)]
    rcases ht with ⟨h1, h2, h3, h4⟩ | ⟨h1, h2, h3, h4⟩ | ⟨h1, h2, h3, h4⟩
    · rw [if_pos h1, h2, h3, h4]; simp
    · rw [if_neg (by omega), if_pos h1, h2, h3, h4]; simp
    · rw [if_neg (by omega), if_neg (by omega), if_pos h1, if_pos (by simp [h2, h3, h4])]
      rw [mayL_bwd d (mayS_bwd d) t.args (n - 1) (fun u hu => ⟨hs u hu, hd u hu⟩) (by omega)]
      congr 1; omega
theorem mayT_iff (t : Tm) : mayT t = true ↔ t.shp ∧ dle 5 t ∧ t.sz ≤ 24 := by
  constructor
  · intro h
    obtain ⟨h1, h2, h3, h4⟩ := mayS_fwd 5 t 24 (by omega) h
    exact ⟨h1, h2, by omega⟩
  · rintro ⟨h1, h2, h3⟩
    show (mayS 5 t 24).1 = true
    rw [mayS_bwd 5 t 24 h1 h2 (by omega)]
def varT (s : ByteArray) : Tm := ⟨1, s, 0, []⟩
theorem sub_congr {g h : ByteArray → Tm} (t : Tm) : (∀ y, t.occ y → g y = h y) → t.sub g = t.sub h := by
  refine Tm.ind (P := fun t => (∀ y, t.occ y → g y = h y) → t.sub g = t.sub h) (fun t ih hy => ?_) t
  rw [Tm.sub_eq, Tm.sub_eq]
  split
  · rename_i hk; exact hy _ ((Tm.occ_iff _ _).2 (.inl ⟨hk, rfl⟩))
  · congr 1
    exact List.map_congr_left fun u hu => ih u hu fun y hu2 => hy y ((Tm.occ_iff _ _).2 (.inr ⟨u, hu, hu2⟩))
theorem sub_varT {t : Tm} (hs : t.shp) : t.sub varT = t := by
  refine Tm.ind (P := fun t => t.shp → t.sub varT = t) (fun t ih hs => ?_) t hs
  rw [Tm.sub_eq]
  split
  · rename_i hk; rw [(hs.var hk).1]; rfl
  · have : t.args.map (Tm.sub varT) = t.args := by
      have h2 : t.args.map (Tm.sub varT) = t.args.map id := List.map_congr_left fun u hu => ih u hu (hs.arg hu)
      rw [h2, List.map_id]
    rw [this]
    cases t; rfl
theorem sub_id {g : ByteArray → Tm} {t : Tm} (hs : t.shp) (h : ∀ y, t.occ y → g y = varT y) : t.sub g = t := by
  rw [sub_congr t h, sub_varT hs]
theorem occ_sub (g : ByteArray → Tm) (y : ByteArray) (t : Tm) (hs : t.shp) : (t.sub g).occ y ↔ ∃ x, t.occ x ∧ (g x).occ y := by
  refine Tm.ind (P := fun t => t.shp → ((t.sub g).occ y ↔ ∃ x, t.occ x ∧ (g x).occ y)) (fun t ih hs => ?_) t hs
  rw [Tm.sub_eq]
  split
  · rename_i hk
    constructor
    · intro h; exact ⟨t.name, (Tm.occ_iff _ _).2 (.inl ⟨hk, rfl⟩), h⟩
    · rintro ⟨x, hx, h⟩
      rw [Tm.occ_iff] at hx
      rcases hx with ⟨_, rfl⟩ | ⟨u, hu, _⟩
      · exact h
      · rw [(hs.var hk).1] at hu; cases hu
  · rename_i hk
    rw [Tm.occ_iff]
    constructor
    · rintro (⟨h, _⟩ | ⟨u, hu, h⟩)
      · exact absurd h hk
      · obtain ⟨v, hv, rfl⟩ := List.mem_map.1 hu
        obtain ⟨x, hx, h2⟩ := (ih v hv (hs.arg hv)).1 h
        exact ⟨x, (Tm.occ_iff _ _).2 (.inr ⟨v, hv, hx⟩), h2⟩
    · rintro ⟨x, hx, h⟩
      rw [Tm.occ_iff] at hx
      rcases hx with ⟨h, _⟩ | ⟨u, hu, h2⟩
      · exact absurd h hk
      · exact .inr ⟨u.sub g, List.mem_map.2 ⟨u, hu, rfl⟩, (ih u hu (hs.arg hu)).2 ⟨x, h2, h⟩⟩
theorem shp_sub {g : ByteArray → Tm} {t : Tm} (hs : t.shp) (h : ∀ y, t.occ y → (g y).shp) : (t.sub g).shp := by
  refine Tm.ind (P := fun t => t.shp → (∀ y, t.occ y → (g y).shp) → (t.sub g).shp) (fun t ih hs h => ?_) t hs h
  rw [Tm.sub_eq]
  split
  · rename_i hk; exact h _ ((Tm.occ_iff _ _).2 (.inl ⟨hk, rfl⟩))
  · rename_i hk
    rw [Tm.shp_iff] at hs ⊢
    refine ⟨?_, fun u hu => ?_⟩
    · have := hs.1
      simp only [Tm.top, List.length_map, List.map_eq_nil_iff] at this ⊢
      exact this
    · obtain ⟨v, hv, rfl⟩ := List.mem_map.1 hu
      exact ih v hv (hs.2 v hv) fun y hy => h y ((Tm.occ_iff _ _).2 (.inr ⟨v, hv, hy⟩))
theorem sz_occ {x : ByteArray} (g : ByteArray → Tm) {t : Tm} (hs : t.shp) (h : t.occ x) : (g x).sz ≤ (t.sub g).sz ∧ (t.kind ≠ 1 → (g x).sz < (t.sub g).sz) := by
  refine Tm.ind (P := fun t => t.shp → t.occ x → (g x).sz ≤ (t.sub g).sz ∧ (t.kind ≠ 1 → (g x).sz < (t.sub g).sz)) (fun t ih hs h => ?_) t hs h
  rw [Tm.occ_iff] at h
  rw [Tm.sub_eq]
  split
  · rename_i hk
    refine ⟨?_, fun h2 => absurd hk h2⟩
    rcases h with ⟨_, rfl⟩ | ⟨u, hu, _⟩
    · exact Nat.le_refl _
    · rw [(hs.var hk).1] at hu; cases hu
  · rename_i hk
    rcases h with ⟨h, _⟩ | ⟨u, hu, h⟩
    · exact absurd h hk
    · have h1 := (ih u hu (hs.arg hu) h).1
      have h2 : (u.sub g).sz < (Tm.mk t.kind t.name t.n (t.args.map (Tm.sub g))).sz := by
        rw [Tm.sz_eq (Tm.mk _ _ _ _)]
        simp only [List.map_map]
        obtain ⟨i, hi⟩ := List.getElem?_of_mem hu
        have := sum_split (l := t.args) (k := i) (u := u) (Tm.sz ∘ Tm.sub g) hi
        simp only [Function.comp] at this ⊢
        omega
      exact ⟨by omega, fun _ => by omega⟩
end Go.Proofs.YtdecgkhdbfgldaaGreat

set_option linter.unusedVariables false
set_option linter.unusedSimpArgs false
namespace Go.Proofs.YtdecgkhdbfgldaaGreat
open Go
structure GB (l : List Bd) : Prop where
  len : l.length ≤ 16
  ris : RisB l
  el : ∀ b ∈ l, b.wf ∧ varB b.name = true ∧ mayT b.t = true
  idem : ∀ b ∈ l, ∀ y, b.t.occ y → hasB l y = false
theorem GB.bok {l : List Bd} (h : GB l) : BOk l := ⟨h.ris, by have := h.len; omega, fun b hb => ⟨(h.el b hb).1, (h.el b hb).2.2⟩⟩
theorem hasB_iff (l : List Bd) (y : ByteArray) : hasB l y = true ↔ ∃ b ∈ l, b.name = y := by simp [hasB]
theorem hasB_no (l : List Bd) (y : ByteArray) : hasB l y = false ↔ ∀ b ∈ l, b.name ≠ y := by simp [hasB]
theorem may_dle {t : Tm} (h : mayT t = true) : dle 5 t := ((mayT_iff t).1 h).2.1
theorem may_shp {t : Tm} (h : mayT t = true) : t.shp := ((mayT_iff t).1 h).1
theorem note5 {t : Tm} (h : dle 5 t) (y : ByteArray) : y ∈ noteL 5 [t] ↔ t.occ y := note_occ y 5 t h
theorem noteL5 {l : List Tm} (h : ∀ t ∈ l, dle 5 t) (y : ByteArray) : y ∈ noteL 5 l ↔ ∃ t ∈ l, Tm.occ y t := by
  rw [noteL, noteL_mem 5 y (noteS_mem 5 y)]
  constructor
  · rintro (h1 | ⟨u, hu, hy⟩)
    · cases h1
    · exact ⟨u, hu, (note_occ y 5 u (h u hu)).1 hy⟩
  · rintro ⟨u, hu, hy⟩; exact .inr ⟨u, hu, (note_occ y 5 u (h u hu)).2 hy⟩
theorem gB_mem {l : List Bd} (h : RisB l) {b : Bd} (hb : b ∈ l) : gB l b.name = b.t := by
  have key : ∀ l : List Bd, RisB l → b ∈ l → l.find? (fun c => decide (c.name = b.name)) = some b := fun l => by
    induction l with
    | nil => intro _ h; cases h
    | cons a l ih =>
      intro hr hm
      rcases List.mem_cons.1 hm with rfl | hm
      · simp
      · have h1 := List.pairwise_cons.1 hr
        have h2 := h1.1 b hm
        have hne : a.name ≠ b.name := fun e => by rw [e, ltS_irrefl] at h2; cases h2
        rw [List.find?_cons_of_neg (by simpa using hne)]
        exact ih h1.2 hm
  rw [gB, lookB, key l h hb]; rfl
theorem gB_none {l : List Bd} (h : RisB l) {y : ByteArray} (hy : hasB l y = false) : gB l y = varT y := by
  rw [gB, lookB_none h hy]; rfl
theorem gB_cases {l : List Bd} (h : RisB l) (y : ByteArray) : (∃ b ∈ l, b.name = y ∧ gB l y = b.t) ∨ hasB l y = false ∧ gB l y = varT y := by
  cases hc : hasB l y with
  | false => exact .inr ⟨rfl, gB_none h hc⟩
  | true =>
    obtain ⟨b, hb, rfl⟩ := (hasB_iff l y).1 hc
    exact .inl ⟨b, hb, rfl, gB_mem h hb⟩
theorem putT_sub {t : Tm} (h : dle 5 t) (l : List Bd) : putT l t = t.sub (gB l) := turn_sub _ 5 t h
theorem varT_sub (g : ByteArray → Tm) (y : ByteArray) : (varT y).sub g = g y := by rw [Tm.sub_eq]; rfl
theorem varT_occ (x y : ByteArray) : (varT x).occ y ↔ x = y := by rw [Tm.occ_iff]; simp [varT]
theorem gB_occ {l : List Bd} (h : GB l) {x y : ByteArray} (ho : (gB l x).occ y) : hasB l y = false := by
  rcases gB_cases h.ris x with ⟨b, hb, _, e⟩ | ⟨hn, e⟩
  · rw [e] at ho; exact h.idem b hb y ho
  · rw [e, varT_occ] at ho; rw [← ho]; exact hn
theorem gB_shp {l : List Bd} (h : GB l) {x : ByteArray} (hx : varB x = true) : (gB l x).shp := by
  rcases gB_cases h.ris x with ⟨b, hb, _, e⟩ | ⟨hn, e⟩
  · rw [e]; exact may_shp (h.el b hb).2.2
  · rw [e, Tm.shp_iff]; exact ⟨.inl ⟨rfl, hx, rfl, rfl⟩, fun u hu => by cases hu⟩
theorem occ_var {t : Tm} (hs : t.shp) {y : ByteArray} (h : t.occ y) : varB y = true := by
  refine Tm.ind (P := fun t => t.shp → t.occ y → varB y = true) (fun t ih hs h => ?_) t hs h
  rw [Tm.occ_iff] at h
  rcases h with ⟨h1, rfl⟩ | ⟨u, hu, h2⟩
  · exact (hs.var h1).2
  · exact ih u hu (hs.arg hu) h2
theorem gB_id {l : List Bd} (h : GB l) {t : Tm} (hs : t.shp) (hn : ∀ y, t.occ y → hasB l y = false) : t.sub (gB l) = t :=
  sub_id hs fun y hy => gB_none h.ris (hn y hy)
theorem ap_occ {l : List Bd} (h : GB l) {t : Tm} (hs : t.shp) {y : ByteArray} (ho : (t.sub (gB l)).occ y) : hasB l y = false := by
  obtain ⟨x, _, hx⟩ := (occ_sub _ y t hs).1 ho
  exact gB_occ h hx
theorem ap_shp {l : List Bd} (h : GB l) {t : Tm} (hs : t.shp) : (t.sub (gB l)).shp := shp_sub hs fun y hy => gB_shp h (occ_var hs hy)
theorem gB_one (name : ByteArray) (t : Tm) (y : ByteArray) : gB [⟨name, t⟩] y = if name = y then t else varT y := by
  simp only [gB, lookB, List.find?]
  split
  · rename_i h; simp only [decide_eq_true_eq] at h; rw [if_pos h]; rfl
  · rename_i h; simp only [decide_eq_false_iff_not] at h; rw [if_neg h]; rfl
theorem GB_nil : GB [] := ⟨by simp, List.Pairwise.nil, (fun b hb => by cases hb), (fun b hb => by cases hb)⟩
theorem mem_ins {α : Type} (l : List α) (i : Nat) (x b : α) : b ∈ ins l i x ↔ b ∈ l ∨ b = x := by
  unfold ins
  rw [List.mem_append, List.mem_cons]
  have : b ∈ l ↔ b ∈ l.take i ∨ b ∈ l.drop i := by rw [← List.mem_append, List.take_append_drop]
  rw [this]
  constructor
  · rintro (h | h | h) <;> simp [h]
  · rintro ((h | h) | h) <;> simp [h]
theorem stand_spec {l : List Bd} (h : GB l) {name : ByteArray} {t : Tm} (hn : varB name = true) (hns : name.size ≤ 140737488351232) (hw : t.wf) (hm : mayT t = true) (hl : hasB l name = false) (ho : ¬ t.occ name) (hf : ∀ y, t.occ y → hasB l y = false) (he : standE l name t = 0) :
    GB (standL l name t) ∧ (standL l name t).length = l.length + 1 ∧ (∀ y, gB (standL l name t) y = (gB l y).sub (gB [⟨name, t⟩])) ∧ ∀ y, hasB (standL l name t) y = (hasB l y || decide (name = y)) := by
  have hc : ¬ (16 ≤ l.length ∨ goodB [⟨name, t⟩] l = false) := by
    intro hc; rw [standE, if_pos hc] at he; cases he
  have hg : goodB [⟨name, t⟩] l = true := by
    cases hx : goodB [⟨name, t⟩] l with
    | true => rfl
    | false => exact absurd (.inr hx) hc
  have hg2 : ∀ b ∈ l, mayT (putT [⟨name, t⟩] b.t) = true := fun b hb => (into_may (by simpa using List.all_eq_true.1 hg b hb)).1
  rw [standL, if_neg hc]
  have hlen : (ins (subB [⟨name, t⟩] l) (posB l name) ⟨name, t⟩).length = l.length + 1 := by
    rw [ins_length _ _ _ (by rw [subB_length]; exact posB_le l name), subB_length]
  have hh : ∀ y, hasB (ins (subB [⟨name, t⟩] l) (posB l name) ⟨name, t⟩) y = (hasB l y || decide (name = y)) := fun y => by
    rw [Bool.eq_iff_iff, Bool.or_eq_true, hasB_iff, hasB_iff, decide_eq_true_eq]
    constructor
    · rintro ⟨b, hb, rfl⟩
      rcases (mem_ins _ _ _ _).1 hb with hb | rfl
      · obtain ⟨c, hc2, rfl⟩ := List.mem_map.1 hb
        exact .inl ⟨c, hc2, rfl⟩
      · exact .inr rfl
    · rintro (⟨b, hb, rfl⟩ | rfl)
      · exact ⟨_, (mem_ins _ _ _ _).2 (.inl (List.mem_map.2 ⟨b, hb, rfl⟩)), rfl⟩
      · exact ⟨_, (mem_ins _ _ _ _).2 (.inr rfl), rfl⟩
  have hsb : hasB (subB [⟨name, t⟩] l) name = false := by
    rw [hasB_no] at hl ⊢
    intro b hb
    obtain ⟨c, hc2, rfl⟩ := List.mem_map.1 hb
    exact hl c hc2
  have hris : RisB (ins (subB [⟨name, t⟩] l) (posB l name) ⟨name, t⟩) := by
    have := ins_ris (y := ⟨name, t⟩) (subB_ris [⟨name, t⟩] h.ris) hsb
    rwa [subB_pos] at this
  have hone := one_bok hns hw hm
  have hput : ∀ b ∈ l, putT [⟨name, t⟩] b.t = b.t.sub (gB [⟨name, t⟩]) := fun b hb => putT_sub (may_dle (h.el b hb).2.2) _
  have hGB : GB (ins (subB [⟨name, t⟩] l) (posB l name) ⟨name, t⟩) := by
    refine ⟨by rw [hlen]; omega, hris, fun b hb => ?_, fun b hb y hy => ?_⟩
    · rcases (mem_ins _ _ _ _).1 hb with hb | rfl
      · obtain ⟨c, hc2, rfl⟩ := List.mem_map.1 hb
        exact ⟨⟨(h.el c hc2).1.1, putT_wf hone (h.el c hc2).1.2⟩, (h.el c hc2).2.1, hg2 c hc2⟩
      · exact ⟨⟨hns, hw⟩, hn, hm⟩
    · rw [hh, Bool.or_eq_false_iff, decide_eq_false_iff_not]
      rcases (mem_ins _ _ _ _).1 hb with hb | rfl
      · obtain ⟨c, hc2, rfl⟩ := List.mem_map.1 hb
        simp only at hy
        rw [hput c hc2, occ_sub _ _ _ (may_shp (h.el c hc2).2.2)] at hy
        obtain ⟨x, hx, hy⟩ := hy
        rw [gB_one] at hy
        split at hy
        · exact ⟨hf y hy, fun e => ho (e ▸ hy)⟩
        · rename_i hne
          rw [varT_occ] at hy; subst hy
          exact ⟨h.idem c hc2 x hx, hne⟩
      · exact ⟨hf y hy, fun e => ho (e ▸ hy)⟩
  refine ⟨hGB, hlen, fun y => ?_, hh⟩
  rcases gB_cases h.ris y with ⟨b, hb, rfl, e⟩ | ⟨hn2, e⟩
  · rw [e]
    have := gB_mem hris (b := ⟨b.name, putT [⟨name, t⟩] b.t⟩) ((mem_ins _ _ _ _).2 (.inl (List.mem_map.2 ⟨b, hb, rfl⟩)))
    simp only at this
    rw [this, hput b hb]
  · rw [e, varT_sub, gB_one]
    split
    · rename_i hy; subst hy
      exact gB_mem hris (b := ⟨name, t⟩) ((mem_ins _ _ _ _).2 (.inr rfl))
    · rename_i hy
      exact gB_none hris (by rw [hh, hn2]; simpa using hy)
end Go.Proofs.YtdecgkhdbfgldaaGreat

set_option linter.unusedVariables false
set_option linter.unusedSimpArgs false
namespace Go.Proofs.YtdecgkhdbfgldaaGreat
open Go
def TK (t : Tm) : Prop := t.shp ∧ dle 5 t ∧ t.wf
def PK (p : Tm × Tm) : Prop := TK p.1 ∧ TK p.2
theorem TK_may {t : Tm} (h : mayT t = true) (hw : t.wf) : TK t := ⟨may_shp h, may_dle h, hw⟩
theorem TK.arg {t u : Tm} (h : TK t) (hu : u ∈ t.args) : TK u := ⟨h.1.arg hu, dle_mono 4 5 u (by omega) (h.2.1 u hu), Tm.wfs_mem h.2.2.2.2.2.2 hu⟩
theorem occB_iff {t : Tm} (h : dle 5 t) (s : ByteArray) : occB t s = true ↔ t.occ s := by
  rw [occB, List.any_eq_true]
  constructor
  · rintro ⟨y, hy, e⟩
    simp only [decide_eq_true_eq] at e; subst e
    exact (note5 h y).1 hy
  · intro ho; exact ⟨s, (note5 h s).2 ho, by simp⟩
theorem stands_spec {l : List Bd} (h : GB l) {x : ByteArray} {u : Tm} (hx : varB x = true) (hxs : x.size ≤ 140737488351232) (hw : u.wf) (hm : mayT u = true) (hl : hasB l x = false) (hf : ∀ y, u.occ y → hasB l y = false) (hne : u ≠ varT x) :
    standsE l x u = 2 ∨ (standsE l x u = 3 ∧ ∀ θ : ByteArray → Tm, θ x ≠ u.sub θ) ∨ (standsE l x u = 0 ∧ GB (standsL l x u) ∧ (standsL l x u).length = l.length + 1 ∧ (∀ y, gB (standsL l x u) y = (gB l y).sub (gB [⟨x, u⟩])) ∧ ∀ y, hasB (standsL l x u) y = (hasB l y || decide (x = y))) := by
  have hs := may_shp hm
  rw [standsE, standsL]
  cases hc : occB u x with
  | true =>
    rw [occB_iff (may_dle hm)] at hc
    rw [if_pos rfl]
    refine .inr (.inl ⟨rfl, fun θ e => ?_⟩)
    have hk : u.kind ≠ 1 := fun hk => by
      have hv := (hs.var hk).1
      rw [hv, Tm.occ_iff] at hc
      simp only [List.not_mem_nil, false_and, exists_false, or_false, true_and] at hc
      rw [hc] at hv; exact hne hv
    have := (sz_occ θ hs hc).2 hk
    rw [e] at this; omega
  | false =>
    have ho : ¬ u.occ x := fun ho => by rw [(occB_iff (may_dle hm) x).2 ho] at hc; cases hc
    rw [if_neg (by simp), if_neg (by simp)]
    by_cases he : standE l x u = 0
    · obtain ⟨h1, h2, h3, h4⟩ := stand_spec h hx hxs hw hm hl ho hf he
      exact .inr (.inr ⟨he, h1, h2, h3, h4⟩)
    · left
      unfold standE at he ⊢
      split
      · rfl
      · rename_i hh; rw [if_neg hh] at he; exact absurd rfl he
def OneOk (l : List Bd) (a b : Tm) (q : List Bd × List (Tm × Tm) × Int) : Prop :=
  mayT a = true ∧ mayT b = true ∧ ((q = (l, [], 0) ∧ a = b) ∨
    (∃ x u, ((a = varT x ∧ b = u) ∨ (b = varT x ∧ a = u)) ∧ u.shp ∧ q.2 = ([], 0) ∧ GB q.1 ∧ q.1.length = l.length + 1 ∧ (∀ y, gB q.1 y = (gB l y).sub (gB [⟨x, u⟩])) ∧ ∀ y, hasB q.1 y = (hasB l y || decide (x = y))) ∨
    (q = (l, a.args.zip b.args, 0) ∧ a.kind ≠ 1 ∧ b.kind ≠ 1 ∧ a.kind = b.kind ∧ a.name = b.name ∧ a.n = b.n ∧ a.args.length = b.args.length))
theorem one_spec {l : List Bd} (h : GB l) {p : Tm × Tm} (hp : PK p) :
    (oneR l p).2.2 = 2 ∨ ((oneR l p).2.2 = 3 ∧ ∀ θ : ByteArray → Tm, (p.1.sub (gB l)).sub θ ≠ (p.2.sub (gB l)).sub θ) ∨ OneOk l (p.1.sub (gB l)) (p.2.sub (gB l)) (oneR l p) := by
  have e1 := putT_sub hp.1.2.1 l
  have e2 := putT_sub hp.2.2.1 l
  have w1 := putT_wf h.bok hp.1.2.2
  have w2 := putT_wf h.bok hp.2.2.2
  have f1 : ∀ y, (p.1.sub (gB l)).occ y → hasB l y = false := fun y => ap_occ h hp.1.1
  have f2 : ∀ y, (p.2.sub (gB l)).occ y → hasB l y = false := fun y => ap_occ h hp.2.1
  have hi : ∀ t, intoE l t = 0 ∨ intoE l t = 2 := fun t => by unfold intoE; split <;> simp
  unfold oneR
  by_cases c0 : intoE l p.1 = 0
  case neg => rw [if_pos c0]; rcases hi p.1 with h | h; exact absurd h c0; exact .inl h
  rw [if_neg (by simp [c0])]
  by_cases c1 : intoE l p.2 = 0
  case neg => rw [if_pos c1]; rcases hi p.2 with h | h; exact absurd h c1; exact .inl h
  rw [if_neg (by simp [c1])]
  have m1 := (into_may c0).1
  have m2 := (into_may c1).1
  rw [e1] at w1 m1
  rw [e2] at w2 m2
  rw [e1, e2]
  generalize p.1.sub (gB l) = a at *
  generalize p.2.sub (gB l) = b at *
  have s1 := may_shp m1
  have s2 := may_shp m2
  have key : ∀ (x : ByteArray) (u : Tm), ((a = varT x ∧ b = u) ∨ (b = varT x ∧ a = u)) → u ≠ varT x → u.wf → mayT u = true → (∀ y, u.occ y → hasB l y = false) → varB x = true → x.size ≤ 140737488351232 → hasB l x = false →
      (standsE l x u = 2 ∨ (standsE l x u = 3 ∧ ∀ θ : ByteArray → Tm, a.sub θ ≠ b.sub θ) ∨ OneOk l a b (standsL l x u, [], standsE l x u)) := fun x u hab hne hw hm hf hx hxs hl => by
    rcases stands_spec h hx hxs hw hm hl hf hne with h1 | ⟨h1, h2⟩ | ⟨h1, h2, h3, h4, h5⟩
    · exact .inl h1
    · refine .inr (.inl ⟨h1, fun θ e => ?_⟩)
      rcases hab with ⟨rfl, rfl⟩ | ⟨rfl, rfl⟩
      · rw [varT_sub] at e; exact h2 θ e
      · rw [varT_sub] at e; exact h2 θ e.symm
    · exact .inr (.inr ⟨m1, m2, .inr (.inl ⟨x, u, hab, may_shp hm, by rw [h1], h2, h3, h4, h5⟩)⟩)
  split
  · rename_i hc
    have ea := (s1.var hc.1).1
    have eb := (s2.var hc.2.1).1
    exact .inr (.inr ⟨m1, m2, .inl ⟨rfl, by rw [ea, eb, hc.2.2]⟩⟩)
  rename_i n0
  split
  · rename_i hc
    have ea := s1.var hc.1
    refine key a.name b (.inl ⟨ea.1, rfl⟩) (fun e => ?_) w2 m2 f2 ea.2 w1.2.1 (f1 _ ((Tm.occ_iff _ _).2 (.inl ⟨hc.1, rfl⟩)))
    have hbk : b.kind = 1 := by rw [e]; rfl
    have hbn : b.name = a.name := by rw [e]; rfl
    exact n0 ⟨hc.1, hbk, hbn.symm⟩
  rename_i n1
  split
  · rename_i hc
    have eb := s2.var hc
    refine key b.name a (.inr ⟨eb.1, rfl⟩) (fun e => ?_) w1 m1 f1 eb.2 w2.2.1 (f2 _ ((Tm.occ_iff _ _).2 (.inl ⟨hc, rfl⟩)))
    have hak : a.kind = 1 := by rw [e]; rfl
    have han : a.name = b.name := by rw [e]; rfl
    exact n0 ⟨hak, hc, han⟩
  rename_i n2
  have hak : a.kind ≠ 1 := fun hk => n1 ⟨hk, .inl n2⟩
  split
  · rename_i hc
    rw [argsL, if_pos hc]
    simp only [argsB, Bool.and_eq_true, decide_eq_true_eq] at hc
    exact .inr (.inr ⟨m1, m2, .inr (.inr ⟨rfl, hak, n2, hc.1.1.1, hc.1.1.2, hc.1.2, hc.2⟩)⟩)
  · rename_i hc
    refine .inr (.inl ⟨rfl, fun θ e => ?_⟩)
    rw [Tm.sub_eq, if_neg hak, Tm.sub_eq, if_neg n2] at e
    simp only [Tm.mk.injEq] at e
    apply hc
    have := congrArg List.length e.2.2.2
    simp only [List.length_map] at this
    simp [argsB, e.1, e.2.1, e.2.2.1, this]
def uIter : Nat → List Bd → List (Tm × Tm) → Option (List Bd × Int)
  | _, l, [] => some (l, 0)
  | 0, _, _ :: _ => none
  | n + 1, l, p :: ps => if (oneR l p).2.2 ≠ 0 then some ([], (oneR l p).2.2) else uIter n (oneR l p).1 ((oneR l p).2.1 ++ ps)
theorem PK_zip {a b : Tm} (ha : TK a) (hb : TK b) : ∀ p ∈ a.args.zip b.args, PK p := fun p hp => by
  have := List.of_mem_zip hp
  exact ⟨ha.arg this.1, hb.arg this.2⟩
theorem one_keeps {l : List Bd} (h : GB l) {p : Tm × Tm} (hp : PK p) (he : (oneR l p).2.2 = 0) : GB (oneR l p).1 ∧ (∀ q ∈ (oneR l p).2.1, PK q) ∧ OneOk l (p.1.sub (gB l)) (p.2.sub (gB l)) (oneR l p) := by
  have e1 := putT_sub hp.1.2.1 l
  have e2 := putT_sub hp.2.2.1 l
  have w1 := putT_wf h.bok hp.1.2.2
  have w2 := putT_wf h.bok hp.2.2.2
  rw [e1] at w1
  rw [e2] at w2
  rcases one_spec h hp with h1 | ⟨h1, _⟩ | h1
  · rw [h1] at he; cases he
  · rw [h1] at he; cases he
  · refine ⟨?_, ?_, h1⟩
    · obtain ⟨_, _, ⟨e, _⟩ | ⟨x, u, _, _, e, hg, _⟩ | ⟨e, _⟩⟩ := h1
      · rw [e]; exact h
      · exact hg
      · rw [e]; exact h
    · obtain ⟨m1, m2, ⟨e, _⟩ | ⟨x, u, _, _, e, hg, _⟩ | ⟨e, _⟩⟩ := h1
      · rw [e]; intro q hq; cases hq
      · rw [e]; intro q hq; cases hq
      · rw [e]; exact PK_zip (TK_may m1 w1) (TK_may m2 w2)
end Go.Proofs.YtdecgkhdbfgldaaGreat

set_option linter.unusedVariables false
set_option linter.unusedSimpArgs false
namespace Go.Proofs.YtdecgkhdbfgldaaGreat
open Go
def wgh (l : List Bd) (ps : List (Tm × Tm)) : Nat := (ps.map fun p => (p.1.sub (gB l)).sz).sum
theorem wgh_cons (l : List Bd) (p : Tm × Tm) (ps : List (Tm × Tm)) : wgh l (p :: ps) = (p.1.sub (gB l)).sz + wgh l ps := by simp [wgh]
theorem wgh_append (l : List Bd) (ps qs : List (Tm × Tm)) : wgh l (ps ++ qs) = wgh l ps + wgh l qs := by simp [wgh]
theorem wgh_zip {l : List Bd} (h : GB l) {p : Tm × Tm} (hp : PK p) {bs : List Tm} (hlen : (p.1.sub (gB l)).args.length = bs.length) : 1 + wgh l ((p.1.sub (gB l)).args.zip bs) = (p.1.sub (gB l)).sz := by
  rw [Tm.sz_eq (p.1.sub (gB l)), wgh]
  have hs := ap_shp h hp.1.1
  have ho : ∀ y, (p.1.sub (gB l)).occ y → hasB l y = false := fun y => ap_occ h hp.1.1
  have e : (((p.1.sub (gB l)).args.zip bs).map fun p => (p.1.sub (gB l)).sz) = (((p.1.sub (gB l)).args.zip bs).map Prod.fst).map fun u => (u.sub (gB l)).sz := by rw [List.map_map]; rfl
  rw [e, List.map_fst_zip (by omega)]
  have e2 : ((p.1.sub (gB l)).args.map fun u => (u.sub (gB l)).sz) = (p.1.sub (gB l)).args.map Tm.sz := List.map_congr_left fun u hu => by
    rw [gB_id h (hs.arg hu) fun y hy => ho y ((Tm.occ_iff _ _).2 (.inr ⟨u, hu, hy⟩))]
  rw [e2]
def WI (l : List Bd) (ps : List (Tm × Tm)) : Prop := ∃ pend rest, ps = pend ++ rest ∧ wgh l pend ≤ 24 ∧ rest.length ≤ 24 * (l.length + 1)
theorem wgh_len (l : List Bd) : ∀ ps, ps.length ≤ wgh l ps
  | [] => Nat.zero_le _
  | p :: ps => by
    have := wgh_len l ps
    have := Tm.sz_pos (p.1.sub (gB l))
    rw [wgh_cons, List.length_cons]; omega
theorem WI.len {l : List Bd} {ps : List (Tm × Tm)} (h : WI l ps) (hl : l.length ≤ 16) : ps.length ≤ 432 := by
  obtain ⟨pend, rest, rfl, h1, h2⟩ := h
  have := wgh_len l pend
  rw [List.length_append]; omega
theorem WI.step {l : List Bd} (h : GB l) {p : Tm × Tm} (hp : PK p) {ps : List (Tm × Tm)} (hw : WI l (p :: ps)) (he : (oneR l p).2.2 = 0) : WI (oneR l p).1 ((oneR l p).2.1 ++ ps) := by
  obtain ⟨g1, g2, g3⟩ := one_keeps h hp he
  obtain ⟨pend, rest, e0, h1, h2⟩ := hw
  cases pend with
  | nil =>
    simp only [List.nil_append] at e0
    subst e0
    simp only [List.length_cons] at h2
    obtain ⟨m1, m2, ⟨e, _⟩ | ⟨x, u, _, _, e, _, hl, _⟩ | ⟨e, _, _, _, _, _, hlen⟩⟩ := g3
    · rw [e]; exact ⟨[], ps, rfl, by simp [wgh], by simp only; omega⟩
    · rw [e]; exact ⟨[], ps, rfl, by simp [wgh], by rw [hl]; omega⟩
    · rw [e]
      have := wgh_zip h hp hlen
      have hz := ((mayT_iff _).1 m1).2.2
      exact ⟨_, ps, rfl, by simp only; omega, by simp only; omega⟩
  | cons q pend =>
    simp only [List.cons_append, List.cons.injEq] at e0
    obtain ⟨rfl, rfl⟩ := e0
    rw [wgh_cons] at h1
    have hpos := Tm.sz_pos (p.1.sub (gB l))
    obtain ⟨m1, m2, ⟨e, _⟩ | ⟨x, u, _, _, e, _, hl, _⟩ | ⟨e, _, _, _, _, _, hlen⟩⟩ := g3
    · rw [e]; exact ⟨pend, rest, rfl, by simp only; omega, h2⟩
    · rw [e]
      refine ⟨[], pend ++ rest, rfl, by simp [wgh], ?_⟩
      have := wgh_len l pend
      rw [hl, List.length_append]; omega
    · rw [e]
      have := wgh_zip h hp hlen
      refine ⟨(p.1.sub (gB l)).args.zip (p.2.sub (gB l)).args ++ pend, rest, by simp, ?_, h2⟩
      rw [wgh_append]; simp only; omega
def uSt : Nat → List Bd × List (Tm × Tm) → List Bd × List (Tm × Tm)
  | 0, s => s
  | k + 1, s => match uSt k s with
    | (l, []) => (l, [])
    | (l, p :: ps) => ((oneR l p).1, (oneR l p).2.1 ++ ps)
theorem uSt_step {k : Nat} {s : List Bd × List (Tm × Tm)} {p : Tm × Tm} {ps : List (Tm × Tm)} (h : (uSt k s).2 = p :: ps) : uSt (k + 1) s = ((oneR (uSt k s).1 p).1, (oneR (uSt k s).1 p).2.1 ++ ps) := by
  rw [uSt]
  split
  · rename_i e; rw [e] at h; cases h
  · rename_i e; rw [e] at h ⊢; simp only [List.cons.injEq] at h; obtain ⟨rfl, rfl⟩ := h; rfl
def UI (n : Nat) (s : List Bd × List (Tm × Tm)) (R : List Bd × Int) (k : Nat) : Prop := k ≤ n ∧ GB (uSt k s).1 ∧ (∀ p ∈ (uSt k s).2, PK p) ∧ WI (uSt k s).1 (uSt k s).2 ∧ uIter (n - k) (uSt k s).1 (uSt k s).2 = some R
theorem UI.step {n : Nat} {s : List Bd × List (Tm × Tm)} {R : List Bd × Int} {k : Nat} (h : UI n s R k) {p : Tm × Tm} {ps : List (Tm × Tm)} (hp : (uSt k s).2 = p :: ps) : k < n ∧ ((oneR (uSt k s).1 p).2.2 = 0 → UI n s R (k + 1)) ∧ ((oneR (uSt k s).1 p).2.2 ≠ 0 → R = ([], (oneR (uSt k s).1 p).2.2)) := by
  obtain ⟨h1, h2, h3, h4, h5⟩ := h
  rw [hp] at h3 h4 h5
  have hk : k < n := by
    rcases Nat.lt_or_ge k n with h | h
    · exact h
    · rw [show n - k = 0 by omega, uIter] at h5; cases h5
  rw [show n - k = (n - (k + 1)) + 1 by omega, uIter] at h5
  refine ⟨hk, fun he => ?_, fun he => ?_⟩
  · rw [if_neg (by simp [he])] at h5
    obtain ⟨g1, g2, _⟩ := one_keeps h2 (h3 p (by simp)) he
    rw [UI, uSt_step hp]
    exact ⟨hk, g1, fun q hq => by
      rcases List.mem_append.1 hq with hq | hq
      · exact g2 q hq
      · exact h3 q (by simp [hq]), WI.step h2 (h3 p (by simp)) h4 he, h5⟩
  · rw [if_pos he] at h5; exact (Option.some.inj h5).symm
end Go.Proofs.YtdecgkhdbfgldaaGreat

set_option linter.unusedVariables false
set_option maxRecDepth 8000
namespace Go.Proofs.YtdecgkhdbfgldaaGreat
open Go Go.RowKit
structure Ask2 where
  B : List (List Bd)
  T : List Tm
  S : List ByteArray
def Ask2.wf (p : Ask2) : Prop := (lenOk p.B ∧ ∀ l ∈ p.B, lenOk l ∧ ∀ b ∈ l, b.wf) ∧ (lenOk p.T ∧ Tm.wfs p.T) ∧ (lenOk p.S ∧ ∀ s ∈ p.S, s.size ≤ 140737488351232)
end Go.Proofs.YtdecgkhdbfgldaaGreat

set_option linter.unusedVariables false
set_option linter.unusedSimpArgs false
set_option maxRecDepth 8000
namespace Go.Proofs.YtdecgkhdbfgldaaGreat
open Go
theorem sub_le {c : Ctx} {N : Nat} {T : List (Nat × AV)} {O : List (Nat × Ob)} (t : Nat) {v u : AV} (ht : lk T t = some v) (hle : Le v u) : Sub c N ⟨T, O⟩ ⟨(t, u) :: T, O⟩ := by
  rintro a w ⟨ρ, S, hc⟩
  have hev := hc.T t _ ht
  refine ⟨ρ, S, { hc with tm := hc.tm, T := fun s x hs => ?_ }⟩
  simp only [lk_cons] at hs
  split at hs
  · rename_i e'; subst e'
    simp only [Option.some.injEq] at hs; subst hs
    exact hle.rep hev
  · exact hc.T s x hs
theorem var_le (f : Bool) (s : ByteArray) : Le (.agg [iv 1, sv s, iv 0, .imm (.slice none 0 0)]) (.agg (lift f (tmD (varT s)))) := .agg (.cons .refl (.cons .refl (.cons .refl (.cons .nil .nil))))
def numT (n : Int) : Tm := ⟨2, ⟨#[]⟩, n, []⟩
theorem num_le (f : Bool) (n : Int) : Le (.agg [iv 2, sv ⟨#[]⟩, iv n, .imm (.slice none 0 0)]) (.agg (lift f (tmD (numT n)))) := .agg (.cons .refl (.cons .refl (.cons .refl (.cons .nil .nil))))
theorem tm_wf1 {k : Int} {s : ByteArray} {n : Int} {l : List Tm} (hk : -9223372036854775808 ≤ k ∧ k ≤ 9223372036854775807) (hs : s.size ≤ 140737488351232) (hn : -9223372036854775808 ≤ n ∧ n ≤ 9223372036854775807) (hl : l.length * 56 ≤ 140737488351232) (h : ∀ t ∈ l, t.wf) : (Tm.mk k s n l).wf := ⟨hk, hs, hn, hl, wfs_of h⟩
abbrev sX : ByteArray := ⟨#[88]⟩
abbrev sY : ByteArray := ⟨#[89]⟩
abbrev nmT (s : ByteArray) (l : List Tm) : Tm := ⟨3, s, 0, l⟩
theorem varT_w (s : ByteArray) (h : s.size ≤ 140737488351232) : (varT s).wf := tm_wf1 (by decide) h (by decide) (by decide) (fun t ht => by cases ht)
theorem numT_w (n : Int) (h : -9223372036854775808 ≤ n ∧ n ≤ 9223372036854775807) : (numT n).wf := tm_wf1 (by decide) (Nat.zero_le _) h (by decide) (fun t ht => by cases ht)
theorem nmT_w (s : ByteArray) (l : List Tm) (h : s.size ≤ 140737488351232) (hl : l.length * 56 ≤ 140737488351232) (hw : ∀ t ∈ l, t.wf) : (nmT s l).wf := tm_wf1 (by decide) h (by decide) hl hw
theorem all2 {P : Tm → Prop} {a b : Tm} (h1 : P a) (h2 : P b) : ∀ t ∈ [a, b], P t := fun t ht => by
  simp only [List.mem_cons, List.not_mem_nil, or_false] at ht
  rcases ht with rfl | rfl <;> assumption
theorem all1 {P : Tm → Prop} {a : Tm} (h1 : P a) : ∀ t ∈ [a], P t := fun t ht => by
  simp only [List.mem_cons, List.not_mem_nil, or_false] at ht
  rw [ht]; exact h1
end Go.Proofs.YtdecgkhdbfgldaaGreat

set_option linter.unusedVariables false
set_option linter.unusedSimpArgs false
namespace Go.Proofs.YtdecgkhdbfgldaaGreat
open Go
theorem eqL_iff (f : Tm → Tm → Bool) : ∀ (l m : List Tm), (∀ u v, u ∈ l → (f u v = true ↔ u = v)) → (eqL f l m = true ↔ l = m)
  | [], [], _ => by simp [eqL]
  | [], _ :: _, _ => by simp [eqL]
  | _ :: _, [], _ => by simp [eqL]
  | a :: l, b :: m, h => by
    have ih := eqL_iff f l m (fun u v hu => h u v (by simp [hu]))
    simp only [eqL, Bool.and_eq_true, h a b (by simp), ih, List.cons.injEq]
theorem bext {a b : ByteArray} (h : a.data.toList = b.data.toList) : a = b := by
  cases a; cases b; congr 1; exact Array.toList_inj.1 h
theorem eqT_iff : ∀ (d : Nat) (a b : Tm), dle d a → (eqT d a b = true ↔ a = b)
  | 0, a, b, h => h.elim
  | d + 1, a, b, h => by
    have ih := eqL_iff (eqT d) a.args b.args (fun u v hu => eqT_iff d u v (h u hu))
    rw [eqT]
    simp only [Bool.and_eq_true, decide_eq_true_eq, ih, data_inj]
    cases a; cases b
    simp only [Tm.mk.injEq]
    constructor
    · rintro ⟨⟨⟨h1, h2⟩, h3⟩, h4⟩; exact ⟨h1, bext h2, h3, h4⟩
    · rintro ⟨h1, h2, h3, h4⟩; exact ⟨⟨⟨h1, by rw [h2]⟩, h3⟩, h4⟩
theorem lookT_mem {l : List Bd} (h : RisB l) {b : Bd} (hb : b ∈ l) : lookT l b.name = b.t := by
  have hs : hasB l b.name = true := (hasB_iff _ _).2 ⟨b, hb, rfl⟩
  have h1 := gB_mem h hb
  have h2 := (lookB_has l b.name h).1
  rw [hs] at h2
  rw [gB] at h1
  rw [lookT]
  cases hh : lookB l b.name with
  | none => rw [hh] at h2; cases h2
  | some t => rw [hh] at h1; exact h1
end Go.Proofs.YtdecgkhdbfgldaaGreat
