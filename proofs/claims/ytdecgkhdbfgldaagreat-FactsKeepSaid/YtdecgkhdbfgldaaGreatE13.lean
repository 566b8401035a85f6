/- Part 13 of the proof: Jf, Srt, Jb, Jg. -/
import Derived.Test.YtdecgkhdbfgldaaGreatE12
import Derived.Shelf.SlSortCmp.NoneTotal
import Derived.Shelf.SlGeneric
import Derived.Ground.SlsfProg
import Derived.Test.YtdecgkhdbfgldaaGreatProg
set_option linter.unusedVariables false
set_option linter.unusedSimpArgs false
set_option maxRecDepth 8000
namespace Go.Proofs.YtdecgkhdbfgldaaGreat
open Go
theorem LOs {c : Ctx} {Oin O1 : List (Nat × Ob)} (hL : ∀ l, c.L l ↔ inD Oin l = true) (h : (Oin.all fun p => inD O1 p.1) = true) : ∀ l, c.L l → inD O1 l = true := fun l hl => by
  obtain ⟨p, hp, rfl⟩ := inD_mem ((hL l).1 hl)
  exact List.all_eq_true.1 h p hp
theorem nL {c : Ctx} {Oin : List (Nat × Ob)} (hL : ∀ l, c.L l ↔ inD Oin l = true) {l : Nat} (h : inD Oin l = false) : ¬ c.L l := fun hl => by
  rw [(hL l).1 hl] at h; cases h
def someL (l : List Kp) (p : Ft → Bool) : List Kp := if listB l = true then l.filter (fun k => p k.f) else []
def someE (l : List Kp) : Int := if listB l = true then 0 else 1
theorem filter_nk (l : List Kp) (p : Ft → Bool) : l.filter (fun u => !(!(p u.f))) = l.filter (fun k => p k.f) := by
  congr 1; funext u; simp
theorem IndexNil_kp_ok (g : FuncId) : AC Tryz.prog 188 [.imm (.slice none 0 0), .fn g [.any]] [] (fun r O => r = iv (-1) ∧ O = []) := by
  refine AC_intro Tryz.func188 rfl Tryz.ntmps188 (Nat.le_of_ble_eq_true rfl) fun c hL hQ hDD => ?_; refine awp_seq ?_; refine awp_region ?_; refine awps_stp0 rfl rfl (by decide) (stp_move (.inr rfl) rfl) ?_; refine awps_nil ?_; refine thenQ_nil ?_; refine awp_seq ?_; refine awp_seq ?_; refine awp_region ?_; refine awps_stp0 rfl rfl (by decide) (stp_move (.inl rfl) rfl) ?_; refine awps_stp0 rfl rfl (by decide) (stp_len_nil rfl sl_S_api_Kept rfl) ?_
  refine awps_stp0 rfl rfl (by decide) (stp_move (.inl rfl) rfl) ?_; refine awps_nil ?_; refine thenQ_nil ?_; refine awp_block ?_; refine awp_while (0) (fun k => True) (fun k => ⟨[(0, .imm (.slice none 0 0)), (1, .fn g [.any]), (7, iv 0), (8, iv (k : Int))], []⟩) (trivial) ?_ (fun k hk hp => ?_)
  · exact sub_re (SubT.cons (lk_eq rfl (by first | rfl | simp)) (SubT.cons (lk_eq rfl (by first | rfl | simp)) (SubT.cons (lk_eq rfl (by first | rfl | simp)) (SubT.cons (lk_eq rfl (by first | rfl | simp)) (SubT.nil))))) (SubO.nil) rfl rfl (noL' (noL hL) _)
  refine awp_seq ?_; refine awp_region ?_; refine awps_stp0 rfl rfl (by decide) (stp_binI rfl rfl rfl rfl) ?_; refine awps_nil ?_; refine thenQ_nil ?_; refine awp_seq ?_; refine awp_cond rfl (fun c0 => ?_) (fun c0 => ?_)
  · try simp only [↓cqA, cqB] at c0
    omega
  try simp only [↓cqA, cqB] at c0
  refine awp_exit ?_; refine thenQ_exit (thenQ_exit (inQ_hit ?_)); refine thenQ_nil ?_; refine awp_seq ?_; refine awp_region ?_; refine awps_stp0 rfl rfl (by decide) (stp_move (.inr rfl) rfl) ?_; refine awps_nil ?_; refine thenQ_nil ?_; refine awp_ret ?_
  -- leaf 0F
  refine ret0 (noL hL) (.inl rfl) (resAs_tmp rfl (resAs_nil)) ?_ ?_
  · rfl
  exact ⟨rfl, rfl⟩
theorem DeleteNil_kp_ok (g : FuncId) : AC Tryz.prog 190 [.imm (.slice none 0 0), .fn g [.any]] [] (fun r O => r = .imm (.slice none 0 0) ∧ O = []) := by
  refine AC_intro Tryz.func190 rfl Tryz.ntmps190 (Nat.le_of_ble_eq_true rfl) fun c hL hQ hDD => ?_; refine awp_seq ?_; refine awp_region ?_; refine awps_stp0 rfl rfl (by decide) (stp_move (.inr rfl) rfl) ?_; refine awps_nil ?_; refine thenQ_nil ?_; refine awp_seq ?_; refine awp_region ?_; refine awps_stp0 rfl rfl (by decide) (stp_move (.inl rfl) rfl) ?_
  refine awps_stp0 rfl rfl (by decide) (stp_move (.inl rfl) rfl) ?_; refine awps_call (avs := [_, _]) true rfl rfl rfl (by decide) en_slices_IndexFunc_api_Kept_api_Kept rfl rfl (IndexNil_kp_ok g) rfl rfl ?_; refine awps_stp0 rfl rfl (by decide) (stp_move (.inr rfl) rfl) ?_; refine awps_nil ?_; refine thenQ_nil ?_; refine awp_seq ?_; refine awp_seq ?_; refine awp_region ?_
  refine awps_stp0 rfl rfl (by decide) (stp_move (.inl rfl) rfl) ?_; refine awps_stp0 rfl rfl (by decide) (stp_binI rfl rfl rfl rfl) ?_; refine awps_nil ?_; refine thenQ_nil ?_; refine awp_cond rfl (fun c0 => ?_) (fun c0 => ?_)
  · try simp only [↓cqA, cqB] at c0
    refine awp_seq ?_; refine awp_region ?_; refine awps_stp0 rfl rfl (by decide) (stp_move (.inl rfl) rfl) ?_; refine awps_stp0 rfl rfl (by decide) (stp_move (.inr rfl) rfl) ?_; refine awps_nil ?_; refine thenQ_nil ?_; refine awp_ret ?_; refine thenQ_ret (?_)
    -- leaf 0T
    refine ret0 (noL hL) (.inl rfl) (resAs_tmp rfl (resAs_nil)) ?_ ?_
    · rfl
    exact ⟨rfl, rfl⟩
  try simp only [↓cqA, cqB] at c0
  simp at c0
def sinceB (t : Int) (f : Ft) : Bool := decide (t ≤ f.fr)
theorem since1_ok (t : Int) (f : Ft) : AC Tryz.prog 130 [ftA f, .ptr 90 0] [(90, .box [iv t])] (fun r O => r = bv (sinceB t f) ∧ O = [(90, .box [iv t])]) := by
  refine AC_intro Tryz.func130 rfl Tryz.ntmps130 (Nat.le_of_ble_eq_true rfl) fun c hL hQ hDD => ?_; refine awp_seq ?_; refine awp_region ?_; refine awps_stp1 rfl rfl (by decide) (stp_box 2 rfl rfl rfl) rfl ?_; refine awps_stp0 rfl rfl (by decide) (stp_move (.inr rfl) rfl) ?_; refine awps_nil ?_; refine thenQ_nil ?_; refine awp_seq ?_; refine awp_region ?_; refine awps_stp0 rfl rfl (by decide) (stp_fieldAddr rfl fo_api_Fact_1 rfl) ?_; refine awps_stp0 rfl rfl (by decide) (stp_fieldAddr rfl fo_api_Span_0 rfl) ?_; refine awps_stp0 rfl rfl (by decide) (stp_load rfl tf_int rfl rfl rfl rfl rfl) ?_
  refine awps_stp0 rfl rfl (by decide) (stp_load rfl tf_int rfl rfl rfl rfl rfl) ?_; refine awps_stp0 rfl rfl (by decide) (stp_binI rfl rfl rfl rfl) ?_; refine awps_stp0 rfl rfl (by decide) (stp_move (.inr rfl) rfl) ?_; refine awps_nil ?_; refine thenQ_nil ?_; refine awp_ret ?_
  -- leaf 
  change retQ _ _ _ _ _ _ _
  refine retO (O' := [(90, _)]) (.inl rfl) (resAs_tmp rfl resAs_nil) (SubO.cons rfl SubO.nil) ?_ ?_ (LO hL rfl) ?_
  · rfl
  · rfl
  exact ⟨bool_w (by first | rfl | (rw [sinceB, Bool.eq_iff_iff]; simp)), rfl⟩
def nmB (s : ByteArray) (n : Int) (f : Ft) : Bool := decide (f.t.name = s) && decide ((f.t.args.length : Int) = n)
theorem named1_ok (s : ByteArray) (n : Int) (f : Ft) : AC Tryz.prog 129 [ftA f, .ptr 90 0, .ptr 91 0] [(90, .box [sv s]), (91, .box [iv n])] (fun r O => r = bv (nmB s n f) ∧ O = [(90, .box [sv s]), (91, .box [iv n])]) := by
  have hlt := tmDs_length f.t.args
  refine AC_intro Tryz.func129 rfl Tryz.ntmps129 (Nat.le_of_ble_eq_true rfl) fun c hL hQ hDD => ?_; refine awp_seq ?_; refine awp_region ?_; refine awps_stp1 rfl rfl (by decide) (stp_box 3 rfl rfl rfl) rfl ?_; refine awps_stp0 rfl rfl (by decide) (stp_move (.inr rfl) rfl) ?_; refine awps_nil ?_; refine thenQ_nil ?_; refine awp_seq ?_; refine awp_region ?_; refine awps_stp0 rfl rfl (by decide) (stp_fieldAddr rfl fo_api_Fact_0 rfl) ?_; refine awps_stp0 rfl rfl (by decide) (stp_fieldAddr rfl fo_api_Term_1 rfl) ?_
  refine awps_stp0 rfl rfl (by decide) (stp_load rfl tf_string rfl rfl rfl rfl rfl) ?_; refine awps_stp0 rfl rfl (by decide) (stp_load rfl tf_string rfl rfl rfl rfl rfl) ?_; refine awps_stp0 rfl rfl (by decide) (stp_binS rfl rfl rfl rfl) ?_; refine awps_stp0 rfl rfl (by decide) (stp_move (.inl rfl) rfl) ?_; refine awps_split 10 rfl (fun g10 => ?_) (fun g10 => ?_)
  · try simp only [↓cqA, cqB] at g10
    refine awps_g0 rfl rfl rfl (by decide) rfl (by decide) (stp_fieldAddr rfl fo_api_Fact_0 rfl) ?_; refine awps_g0 rfl rfl rfl (by decide) rfl (by decide) (stp_fieldAddr rfl fo_api_Term_3 rfl) ?_; refine awps_g0 rfl rfl rfl (by decide) rfl (by decide) (stp_load rfl tf_S_api_Term rfl rfl rfl rfl rfl) ?_; refine awps_g0 rfl rfl rfl (by decide) rfl (by decide) (stp_len_dat rfl sl_S_api_Term rfl) ?_; refine awps_g0 rfl rfl rfl (by decide) rfl (by decide) (stp_load rfl tf_int rfl rfl rfl rfl rfl) ?_
    refine awps_g0 rfl rfl rfl (by decide) rfl (by decide) (stp_binI rfl rfl rfl rfl) ?_; refine awps_stp0 rfl rfl (by decide) (stp_pick rfl rfl rfl) ?_; refine awps_stp0 rfl rfl (by decide) (stp_move (.inr rfl) rfl) ?_; refine awps_nil ?_; refine thenQ_nil ?_; refine awp_ret ?_
    -- leaf g10T
    change retQ _ _ _ _ _ _ _
    refine retO (O' := [(90, _), (91, _)]) (.inl rfl) (resAs_tmp rfl resAs_nil) (SubO.cons rfl (SubO.cons rfl SubO.nil)) ?_ ?_ (LO hL rfl) ?_
    · rfl
    · rfl
    exact ⟨bool_w (by simp_all [nmB]; try rfl), rfl⟩
  try simp only [↓cqA, cqB] at g10
  refine awps_gs rfl rfl rfl rfl (by decide) rfl (by decide) ?_; refine awps_gs rfl rfl rfl rfl (by decide) rfl (by decide) ?_; refine awps_gs rfl rfl rfl rfl (by decide) rfl (by decide) ?_; refine awps_gs rfl rfl rfl rfl (by decide) rfl (by decide) ?_; refine awps_gs rfl rfl rfl rfl (by decide) rfl (by decide) ?_; refine awps_gs rfl rfl rfl rfl (by decide) rfl (by decide) ?_; refine awps_stp0 rfl rfl (by decide) (stp_pick rfl rfl rfl) ?_; refine awps_stp0 rfl rfl (by decide) (stp_move (.inr rfl) rfl) ?_; refine awps_nil ?_; refine thenQ_nil ?_; refine awp_ret ?_
  -- leaf g10F
  change retQ _ _ _ _ _ _ _
  refine retO (O' := [(90, _), (91, _)]) (.inl rfl) (resAs_tmp rfl resAs_nil) (SubO.cons rfl (SubO.cons rfl SubO.nil)) ?_ ?_ (LO hL rfl) ?_
  · rfl
  · rfl
  exact ⟨bool_w (by simp_all [nmB]; try rfl), rfl⟩
theorem Some1_si_ok (t : Int) (k : Kp) (hk : k.wf) : AC Tryz.prog 191 [kpA k, .ptr 3 0] [(3, .box [.fn 130 [.ptr 90 0]]), (90, .box [iv t])] (fun r O => r = bv (!((sinceB t) k.f)) ∧ O = [(3, .box [.fn 130 [.ptr 90 0]]), (90, .box [iv t])]) := by
  have hkf := hk.2
  refine AC_intro Tryz.func191 rfl Tryz.ntmps191 (Nat.le_of_ble_eq_true rfl) fun c hL hQ hDD => ?_; refine awp_seq ?_; refine awp_region ?_; refine awps_stp1 rfl rfl (by decide) (stp_box 2 rfl rfl rfl) rfl ?_; refine awps_stp0 rfl rfl (by decide) (stp_move (.inr rfl) rfl) ?_; refine awps_nil ?_; refine thenQ_nil ?_; refine awp_seq ?_; refine awp_region ?_; refine awps_stp0 rfl rfl (by decide) (stp_load rfl tf_func_api_Fact_bool rfl rfl rfl rfl rfl) ?_; refine awps_stp0 rfl rfl (by decide) (stp_fieldAddr rfl fo_api_Kept_1 rfl) ?_
  refine awps_stp0 rfl rfl (by decide) (stp_load rfl tf_api_Fact rfl rfl rfl rfl rfl) ?_; refine awps_callP (avs := [_]) false rfl rfl rfl (by decide) en_facts_Since_1 rfl rfl (since1_ok t k.f) (rfl) (passO (.cons rfl trivial rfl .nil)) (by rintro r O' ⟨_, rfl⟩; exact frB rfl) (by rintro h; cases h) ?_
  rintro r O' ⟨rfl, rfl⟩
  refine awps_stp0 rfl rfl (by decide) (stp_not rfl rfl) ?_; refine awps_stp0 rfl rfl (by decide) (stp_move (.inr rfl) rfl) ?_; refine awps_nil ?_; refine thenQ_nil ?_; refine awp_ret ?_
  -- leaf 
  change retQ _ _ _ _ _ _ _
  refine retO (O' := [(3, _), (90, .box [iv t])]) (.inl rfl) (resAs_tmp rfl resAs_nil) (SubO.cons rfl (SubO.cons rfl SubO.nil)) ?_ ?_ (LO hL rfl) ?_
  · rfl
  · rfl
  exact ⟨rfl, rfl⟩
theorem IndexFuncV_si_ok (t : Int) (ts : List Kp) (hlen : ts.length ≤ 1000000000) (cap : Nat) (A : List (Option (List D))) (hA : ∀ (q : Nat) (x : Kp), ts[q]? = some x → A[q]? = some (some (kpD x))) (p : Kp → Bool)
    (hstep : ∀ u ∈ ts, AC Tryz.prog 191 ((fun b => kpA b) u :: [.ptr 3 0]) [(3, .box [.fn 130 [.ptr 90 0]]), (90, .box [iv t])] (fun r O => r = bv (p u) ∧ O = [(3, .box [.fn 130 [.ptr 90 0]]), (90, .box [iv t])])) :
    AC Tryz.prog 188 [.vw 0 0 ts.length cap, .fn 191 [.ptr 3 0]] ((0, .arr 92 7 false A) :: [(3, .box [.fn 130 [.ptr 90 0]]), (90, .box [iv t])]) (fun r O => ∃ (m : Nat) (i : Int), (m ≤ ts.length ∧ ∀ x ∈ ts.take m, p x = false) ∧ ((m < ts.length ∧ (∃ x, ts[m]? = some x ∧ p x = true) ∧ i = m) ∨ (m = ts.length ∧ i = -1)) ∧ r = iv i ∧ O = (0, .arr 92 7 false A) :: [(3, .box [.fn 130 [.ptr 90 0]]), (90, .box [iv t])]) := by
  refine AC_intro Tryz.func188 rfl Tryz.ntmps188 (Nat.le_of_ble_eq_true rfl) fun c hL hQ hDD => ?_; refine awp_seq ?_; refine awp_region ?_; refine awps_stp0 rfl rfl (by decide) (stp_move (.inr rfl) rfl) ?_; refine awps_nil ?_; refine thenQ_nil ?_; refine awp_seq ?_; refine awp_seq ?_; refine awp_region ?_; refine awps_stp0 rfl rfl (by decide) (stp_move (.inl rfl) rfl) ?_; refine awps_stp0 rfl rfl (by decide) (stp_len_vw rfl sl_S_api_Kept rfl) ?_; refine awps_stp0 rfl rfl (by decide) (stp_move (.inl rfl) rfl) ?_; refine awps_nil ?_; refine thenQ_nil ?_; refine awp_block ?_
  refine awp_while (ts.length) (fun k => k ≤ ts.length ∧ ∀ x ∈ ts.take k, p x = false) (fun k => ⟨[(0, .vw 0 0 ts.length cap), (1, .fn 191 [.ptr 3 0]), (7, iv (ts.length : Int)), (8, iv (k : Int))], [(0, .arr 92 7 false A), (3, .box [.fn 130 [.ptr 90 0]]), (90, .box [iv t])]⟩) (⟨by omega, fun x hx => by simp at hx⟩) ?_ (fun k hk hp => ?_)
  · exact sub_re (SubT.cons (lk_eq rfl (by first | rfl | simp)) (SubT.cons (lk_eq rfl (by first | rfl | simp)) (SubT.cons (lk_eq rfl (by first | rfl | simp)) (SubT.cons (lk_eq rfl (by first | rfl | simp)) (SubT.nil))))) (SubO.cons (ok_eq rfl (by rfl)) (SubO.cons (ok_eq rfl (by rfl)) (SubO.cons (ok_eq rfl (by rfl)) (SubO.nil)))) rfl rfl (LO hL rfl)
  refine awp_seq ?_; refine awp_region ?_; refine awps_stp0 rfl rfl (by decide) (stp_binI rfl rfl rfl rfl) ?_; refine awps_nil ?_; refine thenQ_nil ?_; refine awp_seq ?_; refine awp_cond rfl (fun c0 => ?_) (fun c0 => ?_)
  · try simp only [↓cqA, cqB] at c0
    obtain ⟨u, hu⟩ := get_of_lt (l := ts) (k := k) (by omega)
    refine awp_skip ?_; refine thenQ_nil ?_; refine awp_seq ?_; refine awp_block ?_; refine awp_seq ?_; refine awp_region ?_; refine awps_stp0 rfl rfl (by decide) (stp_move (.inl rfl) rfl) ?_; refine awps_stp0 rfl rfl (by decide) (stp_move (.inr rfl) rfl) ?_; refine awps_nil ?_; refine thenQ_nil ?_; refine awp_seq ?_; refine awp_region ?_
    refine awps_stp0 rfl rfl (by decide) (stp_move (.inl rfl) rfl) ?_; refine awps_stp0 rfl rfl (by decide) (stp_move (.inl rfl) rfl) ?_; refine awps_stp0 rfl rfl (by decide) (stp_move (.inl rfl) rfl) ?_; refine awps_stp0 rfl rfl (by decide) (stp_indexAddr_vw rfl sl_S_api_Kept rfl rfl (by omega) (by omega)) ?_; refine awps_stp0 rfl rfl (by decide) (stp_load_arr (i := k) (j := 0) rfl tf_api_Kept rfl rfl (by simp) (hA k u hu) (by decide) (by decide) rfl) ?_
    refine awps_callP (avs := [_]) false rfl rfl rfl (by decide) en_facts_some_1 rfl rfl (hstep u (List.mem_of_getElem? hu)) (rfl) (passO (.cons rfl trivial rfl (.cons rfl trivial rfl .nil))) (by rintro r O' ⟨_, rfl⟩; exact frB rfl) (by rintro h; cases h) ?_
    rintro r O' ⟨rfl, rfl⟩
    refine awps_nil ?_; refine thenQ_nil ?_; refine awp_cond rfl (fun c1 => ?_) (fun c1 => ?_)
    · try simp only [↓cqA, cqB] at c1
      refine awp_seq ?_; refine awp_region ?_; refine awps_stp0 rfl rfl (by decide) (stp_move (.inl rfl) rfl) ?_; refine awps_stp0 rfl rfl (by decide) (stp_move (.inr rfl) rfl) ?_; refine awps_nil ?_; refine thenQ_nil ?_; refine awp_ret ?_; refine inQ_ret (thenQ_ret (thenQ_ret (inQ_ret (thenQ_ret (?_)))))
      change retQ _ _ _ _ _ _ _
      refine retO (O' := (0, _) :: [(3, .box [.fn 130 [.ptr 90 0]]), (90, .box [iv t])]) (.inl rfl) (resAs_tmp rfl resAs_nil) (SubO.cons rfl (SubO.cons rfl (SubO.cons rfl SubO.nil))) ?_ ?_ (LO hL rfl) ?_
      · rfl
      · rfl
      exact ⟨k, _, ⟨by omega, hp.2⟩, .inl ⟨by omega, ⟨u, hu, c1⟩, rfl⟩, rfl, rfl⟩
    try simp only [↓cqA, cqB] at c1
    refine awp_skip ?_; refine inQ_nil ?_; refine thenQ_nil ?_; refine awp_region ?_; refine awps_stp0 rfl rfl (by decide) (stp_add rfl rfl rfl (by omega)) ?_; refine awps_stp0 rfl rfl (by decide) (stp_move (.inl rfl) rfl) ?_; refine awps_nil ?_; refine thenQ_nil ?_; refine ⟨?_, ?_, ?_⟩
    · skip
      omega
    · skip
      refine ⟨by omega, fun x hx => ?_⟩
      rw [take_snoc hu] at hx
      rcases List.mem_append.1 hx with h | h
      · exact hp.2 x h
      · rw [List.mem_singleton.1 h]; exact c1
    exact sub_re (SubT.cons (lk_eq rfl (by first | rfl | simp)) (SubT.cons (lk_eq rfl (by first | rfl | simp)) (SubT.cons (lk_eq rfl (by first | rfl | simp)) (SubT.cons (lk_eq rfl (by first | rfl | simp)) (SubT.nil))))) (SubO.cons (ok_eq rfl (by rfl)) (SubO.cons (ok_eq rfl (by rfl)) (SubO.cons (ok_eq rfl (by rfl)) (SubO.nil)))) rfl rfl (LO hL rfl)
  try simp only [↓cqA, cqB] at c0
  refine awp_exit ?_; refine thenQ_exit (thenQ_exit (inQ_hit ?_)); refine thenQ_nil ?_; refine awp_seq ?_; refine awp_region ?_; refine awps_stp0 rfl rfl (by decide) (stp_move (.inr rfl) rfl) ?_; refine awps_nil ?_; refine thenQ_nil ?_; refine awp_ret ?_
  change retQ _ _ _ _ _ _ _
  refine retO (O' := (0, _) :: [(3, .box [.fn 130 [.ptr 90 0]]), (90, .box [iv t])]) (.inl rfl) (resAs_tmp rfl resAs_nil) (SubO.cons rfl (SubO.cons rfl (SubO.cons rfl SubO.nil))) ?_ ?_ (LO hL rfl) ?_
  · rfl
  · rfl
  exact ⟨k, _, ⟨by omega, hp.2⟩, .inr ⟨by omega, rfl⟩, rfl, rfl⟩
theorem DeleteFunc_si_ok (t : Int) (ts : List Kp) (hlen : ts.length ≤ 1000000000) (cap : Nat) (hc1 : ts.length ≤ cap) (hc2 : cap ≤ maxLen) (p : Kp → Bool)
    (hstep : ∀ u ∈ ts, AC Tryz.prog 191 ((fun b => kpA b) u :: [.ptr 3 0]) [(3, .box [.fn 130 [.ptr 90 0]]), (90, .box [iv t])] (fun r O => r = bv (p u) ∧ O = [(3, .box [.fn 130 [.ptr 90 0]]), (90, .box [iv t])])) :
    AC Tryz.prog 190 [.vw 0 0 ts.length cap, .fn 191 [.ptr 3 0]] ((0, .arr 92 7 false ((ts.map kpD).map some ++ List.replicate (cap - ts.length) none)) :: [(3, .box [.fn 130 [.ptr 90 0]]), (90, .box [iv t])]) (fun r O => ∃ A' : List (Option (List D)), A'.length = cap ∧ (∀ (q : Nat) (x : Kp), (ts.filter (fun u => !(p u)))[q]? = some x → A'[q]? = some (some (kpD x))) ∧ r = .vw 0 0 (ts.filter (fun u => !(p u))).length cap ∧ O = (0, .arr 92 7 false A') :: [(3, .box [.fn 130 [.ptr 90 0]]), (90, .box [iv t])]) := by
  have hml : maxLen = 9223372036854775807 := rfl
  have hAl : ((ts.map kpD).map some ++ List.replicate (cap - ts.length) (none : Option (List D))).length = cap := by simp; omega
  refine AC_intro Tryz.func190 rfl Tryz.ntmps190 (Nat.le_of_ble_eq_true rfl) fun c hL hQ hDD => ?_; refine awp_seq ?_; refine awp_region ?_; refine awps_stp0 rfl rfl (by decide) (stp_move (.inr rfl) rfl) ?_; refine awps_nil ?_; refine thenQ_nil ?_; refine awp_seq ?_; refine awp_region ?_; refine awps_stp0 rfl rfl (by decide) (stp_move (.inl rfl) rfl) ?_; refine awps_stp0 rfl rfl (by decide) (stp_move (.inl rfl) rfl) ?_
  refine awps_callP (avs := [_, _]) false rfl rfl rfl (by decide) en_slices_IndexFunc_api_Kept_api_Kept rfl rfl (IndexFuncV_si_ok t ts hlen cap _ (arr_start kpD ts _) p hstep) (rfl) (passO (.cons rfl trivial rfl (.cons rfl trivial rfl (.cons rfl trivial rfl .nil)))) (by rintro r O' ⟨m, i, _, _, _, rfl⟩; exact frB rfl) (by rintro h; cases h) ?_
  rintro r O' ⟨m, i, ⟨hm1, hno⟩, hc, rfl, rfl⟩
  have hkeep : (ts.take m).filter (fun u => !(p u)) = ts.take m := List.filter_eq_self.2 fun x hx => by rw [hno x hx]; rfl
  refine awps_stp0 rfl rfl (by decide) (stp_move (.inr rfl) rfl) ?_; refine awps_nil ?_; refine thenQ_nil ?_; refine awp_seq ?_; refine awp_seq ?_; refine awp_region ?_; refine awps_stp0 rfl rfl (by decide) (stp_move (.inl rfl) rfl) ?_; refine awps_stp0 rfl rfl (by decide) (stp_binI rfl rfl rfl rfl) ?_; refine awps_nil ?_; refine thenQ_nil ?_; refine awp_cond rfl (fun c0 => ?_) (fun c0 => ?_)
  · try simp only [↓cqA, cqB] at c0
    refine awp_seq ?_; refine awp_region ?_; refine awps_stp0 rfl rfl (by decide) (stp_move (.inl rfl) rfl) ?_; refine awps_stp0 rfl rfl (by decide) (stp_move (.inr rfl) rfl) ?_; refine awps_nil ?_; refine thenQ_nil ?_; refine awp_ret ?_; refine thenQ_ret (?_)
    change retQ _ _ _ _ _ _ _
    refine retO (O' := (0, _) :: [(3, .box [.fn 130 [.ptr 90 0]]), (90, .box [iv t])]) (.inl rfl) (resAs_tmp rfl resAs_nil) (SubO.cons rfl (SubO.cons rfl (SubO.cons rfl SubO.nil))) ?_ ?_ (LO hL rfl) ?_
    · rfl
    · rfl
    have hmt : m = ts.length := by rcases hc with ⟨_, _, h⟩ | ⟨h, _⟩ <;> omega
    rw [hmt, List.take_length] at hkeep
    exact ⟨_, hAl, by rw [hkeep]; exact arr_start kpD ts _, by rw [hkeep]; rfl, rfl⟩
  try simp only [↓cqA, cqB] at c0
  obtain ⟨hmt, him, x0, hx0, hpx⟩ : m < ts.length ∧ i = (m : Int) ∧ ∃ x, ts[m]? = some x ∧ p x = true := by
    rcases hc with ⟨h1, h2, h3⟩ | ⟨_, h⟩
    · exact ⟨h1, h3, h2⟩
    · omega
  subst him
  have hq0 : (ts.take (m + 1 + 0)).filter (fun u => !(p u)) = ts.take m := by rw [Nat.add_zero, filter_snoc _ hx0, hkeep, hpx]; simp
  have hq1 : m = ((ts.take (m + 1 + 0)).filter (fun u => !(p u))).length := by rw [hq0]; simp; omega
  have hq2 : ∀ (q : Nat) (x : Kp), ((ts.take (m + 1 + 0)).filter (fun u => !(p u)))[q]? = some x → ((ts.map kpD).map some ++ List.replicate (cap - ts.length) none)[q]? = some (some (kpD x)) := fun q x hq => by
    rw [hq0, List.getElem?_take] at hq
    split at hq
    · exact arr_start kpD ts _ q x hq
    · cases hq
  refine awp_skip ?_; refine thenQ_nil ?_; refine awp_seq ?_; refine awp_seq ?_; refine awp_region ?_; refine awps_stp0 rfl rfl (by decide) (stp_move (.inl rfl) rfl) ?_; refine awps_stp0 rfl rfl (by decide) (stp_add rfl rfl rfl (by omega)) ?_; refine awps_stp0 rfl rfl (by decide) (stp_move (.inr rfl) rfl) ?_; refine awps_nil ?_; refine thenQ_nil ?_; refine awp_block ?_
  refine awp_whileE (α := Nat × List (Option (List D))) (ts.length) (fun k a => a.1 = ((ts.take (m + 1 + k)).filter (fun u => !(p u))).length ∧ m + 1 + k ≤ ts.length ∧ a.2.length = cap ∧ (∀ (q : Nat) (x : Kp), ((ts.take (m + 1 + k)).filter (fun u => !(p u)))[q]? = some x → a.2[q]? = some (some (kpD x))) ∧ ∀ (q : Nat) (x : Kp), m + 1 + k ≤ q → ts[q]? = some x → a.2[q]? = some (some (kpD x))) (fun k a => ⟨[(0, .vw 0 0 ts.length cap), (1, .fn 191 [.ptr 3 0]), (5, iv (a.1 : Int)), (6, iv ((m + 1 + k : Nat) : Int))], [(0, .arr 92 7 false a.2), (3, .box [.fn 130 [.ptr 90 0]]), (90, .box [iv t])]⟩) ((m, (ts.map kpD).map some ++ List.replicate (cap - ts.length) none)) (⟨hq1, by omega, hAl, hq2, fun q x _ hq => arr_start kpD ts _ q x hq⟩) ?_ (fun k a hk hp => ?_)
  · exact sub_re (SubT.cons (lk_eq rfl (by first | rfl | simp)) (SubT.cons (lk_eq rfl (by first | rfl | simp)) (SubT.cons (lk_eq rfl (by first | rfl | simp)) (SubT.cons (lk_eq rfl (by exact int_imm (by push_cast; omega))) (SubT.nil))))) (SubO.cons (ok_eq rfl (by rfl)) (SubO.cons (ok_eq rfl (by rfl)) (SubO.cons (ok_eq rfl (by rfl)) (SubO.nil)))) rfl rfl (LO hL rfl)
  have hfl := filter_take_le (fun u => !(p u)) ts (m + 1 + k)
  refine awp_seq ?_; refine awp_seq ?_; refine awp_region ?_; refine awps_stp0 rfl rfl (by decide) (stp_move (.inl rfl) rfl) ?_; refine awps_stp0 rfl rfl (by decide) (stp_move (.inl rfl) rfl) ?_; refine awps_stp0 rfl rfl (by decide) (stp_len_vw rfl sl_S_api_Kept rfl) ?_; refine awps_stp0 rfl rfl (by decide) (stp_binI rfl rfl rfl rfl) ?_; refine awps_nil ?_; refine thenQ_nil ?_; refine awp_cond rfl (fun c1 => ?_) (fun c1 => ?_)
  · try simp only [↓cqA, cqB] at c1
    obtain ⟨u, hu⟩ := get_of_lt (l := ts) (k := m + 1 + k) (by omega)
    have hfs := filter_snoc (fun u => !(p u)) hu
    refine awp_skip ?_; refine thenQ_nil ?_; refine awp_seq ?_; refine awp_block ?_; refine awp_seq ?_; refine awp_region ?_; refine awps_stp0 rfl rfl (by decide) (stp_move (.inl rfl) rfl) ?_; refine awps_stp0 rfl rfl (by decide) (stp_move (.inl rfl) rfl) ?_; refine awps_stp0 rfl rfl (by decide) (stp_indexAddr_vw rfl sl_S_api_Kept rfl rfl (by omega) (by omega)) ?_
    refine awps_stp0 rfl rfl (by decide) (stp_load_arr (i := m + 1 + k) (j := 0) rfl tf_api_Kept rfl rfl (by simp only [Nat.zero_add, Int.toNat_natCast, Nat.add_zero]) (hp.2.2.2.2 _ u (Nat.le_refl _) hu) (by decide) (by decide) rfl) ?_; refine awps_stp1 rfl rfl (by decide) (stp_alloc 7 rfl zv_api_Kept rfl) rfl ?_; refine awps_store rfl rfl rfl tf_api_Kept rfl rfl rfl rfl rfl rfl rfl rfl rfl ?_; refine awps_nil ?_; refine thenQ_nil ?_; refine awp_seq ?_; refine awp_region ?_; refine awps_stp0 rfl rfl (by decide) (stp_move (.inl rfl) rfl) ?_
    refine awps_stp0 rfl rfl (by decide) (stp_load_all rfl tf_api_Kept rfl rfl rfl rfl) ?_; refine awps_callP (avs := [_]) false rfl rfl rfl (by decide) en_facts_some_1 rfl rfl (hstep u (List.mem_of_getElem? hu)) (rfl) (passO (.cons rfl trivial rfl (.cons rfl trivial rfl .nil))) (by rintro r O' ⟨_, rfl⟩; exact frB rfl) (by rintro h; cases h) ?_
    rintro r O' ⟨rfl, rfl⟩
    refine awps_stp0 rfl rfl (by decide) (stp_not rfl rfl) ?_; refine awps_nil ?_; refine thenQ_nil ?_; refine awp_cond rfl (fun c2 => ?_) (fun c2 => ?_)
    · try simp only [↓cqA, cqB] at c2
      have hpu : p u = false := by simpa using c2
      let a2 : Nat × List (Option (List D)) := (a.1 + 1, a.2.set a.1 (some (kpD u)))
      have hstp : a2.1 = ((ts.take (m + 1 + (k + 1))).filter (fun u => !(p u))).length ∧ a2.2.length = cap ∧ (∀ (q : Nat) (x : Kp), ((ts.take (m + 1 + (k + 1))).filter (fun u => !(p u)))[q]? = some x → a2.2[q]? = some (some (kpD x))) ∧ ∀ (q : Nat) (x : Kp), m + 1 + (k + 1) ≤ q → ts[q]? = some x → a2.2[q]? = some (some (kpD x)) := by
        rw [hpu] at hfs
        rw [show m + 1 + (k + 1) = m + 1 + k + 1 by omega, hfs]
        refine ⟨by simp [a2, hp.1], by simp [a2, hp.2.2.1], fun q x hq => ?_, fun q x hq hx => ?_⟩
        · simp only [a2, List.getElem?_set]
          by_cases hqa : a.1 = q
          · subst hqa
            rw [if_pos rfl, if_pos (by omega)]
            rw [List.getElem?_append_right (by omega)] at hq
            simp [hp.1] at hq
            rw [hq]
          · rw [if_neg hqa]
            rcases Nat.lt_or_ge q a.1 with h1 | h1
            · rw [List.getElem?_append_left (by omega)] at hq
              exact hp.2.2.2.1 q x hq
            · have := (List.getElem?_eq_some_iff.1 hq).1
              simp at this; omega
        · simp only [a2, List.getElem?_set]
          rw [if_neg (by omega)]
          exact hp.2.2.2.2 q x (by omega) hx
      refine awp_seq ?_; refine awp_region ?_; refine awps_stp0 rfl rfl (by decide) (stp_move (.inl rfl) rfl) ?_; refine awps_stp0 rfl rfl (by decide) (stp_move (.inl rfl) rfl) ?_; refine awps_stp0 rfl rfl (by decide) (stp_load_all rfl tf_api_Kept rfl rfl rfl rfl) ?_
      refine awps_stp0 rfl rfl (by decide) (stp_indexAddr_vw rfl sl_S_api_Kept rfl rfl (by omega) (by omega)) ?_; refine awps_storeArr a.1 rfl rfl rfl tf_api_Kept rfl rfl (by simp) (by omega) rfl rfl rfl rfl rfl rfl ?_; refine awps_nil ?_; refine thenQ_nil ?_; refine awp_region ?_; refine awps_stp0 rfl rfl (by decide) (stp_move (.inl rfl) rfl) ?_
      refine awps_stp0 rfl rfl (by decide) (stp_add rfl rfl rfl (by omega)) ?_; refine awps_stp0 rfl rfl (by decide) (stp_move (.inr rfl) rfl) ?_; refine awps_nil ?_; refine inQ_nil ?_; refine thenQ_nil ?_; refine awp_region ?_; refine awps_stp0 rfl rfl (by decide) (stp_move (.inl rfl) rfl) ?_; refine awps_stp0 rfl rfl (by decide) (stp_add rfl rfl rfl (by omega)) ?_; refine awps_stp0 rfl rfl (by decide) (stp_move (.inr rfl) rfl) ?_; refine awps_nil ?_; refine thenQ_nil ?_; refine ⟨?_, a2, ?_, ?_⟩
      · skip
        omega
      · skip
        exact ⟨hstp.1, by omega, hstp.2.1, hstp.2.2.1, hstp.2.2.2⟩
      exact sub_re (SubT.cons (lk_eq rfl (by first | rfl | simp)) (SubT.cons (lk_eq rfl (by first | rfl | simp)) (SubT.cons (lk_eq rfl (by first | rfl | simp)) (SubT.cons (lk_eq rfl (by exact int_imm (by push_cast; omega))) (SubT.nil))))) (SubO.cons (ok_eq rfl (by rfl)) (SubO.cons (ok_eq rfl (by rfl)) (SubO.cons (ok_eq rfl (by rfl)) (SubO.nil)))) rfl rfl (LO hL rfl)
    try simp only [↓cqA, cqB] at c2
    have hpu : p u = true := by simpa using c2
    let a2 : Nat × List (Option (List D)) := a
    have hstp : a2.1 = ((ts.take (m + 1 + (k + 1))).filter (fun u => !(p u))).length ∧ a2.2.length = cap ∧ (∀ (q : Nat) (x : Kp), ((ts.take (m + 1 + (k + 1))).filter (fun u => !(p u)))[q]? = some x → a2.2[q]? = some (some (kpD x))) ∧ ∀ (q : Nat) (x : Kp), m + 1 + (k + 1) ≤ q → ts[q]? = some x → a2.2[q]? = some (some (kpD x)) := by
      rw [hpu] at hfs
      rw [show m + 1 + (k + 1) = m + 1 + k + 1 by omega, hfs]
      simp only [Bool.not_true, Bool.false_eq_true, if_false, List.append_nil]
      exact ⟨hp.1, hp.2.2.1, hp.2.2.2.1, fun q x hq hx => hp.2.2.2.2 q x (by omega) hx⟩
    refine awp_skip ?_; refine inQ_nil ?_; refine thenQ_nil ?_; refine awp_region ?_; refine awps_stp0 rfl rfl (by decide) (stp_move (.inl rfl) rfl) ?_; refine awps_stp0 rfl rfl (by decide) (stp_add rfl rfl rfl (by omega)) ?_; refine awps_stp0 rfl rfl (by decide) (stp_move (.inr rfl) rfl) ?_; refine awps_nil ?_; refine thenQ_nil ?_; refine ⟨?_, a2, ?_, ?_⟩
    · skip
      omega
    · skip
      exact ⟨hstp.1, by omega, hstp.2.1, hstp.2.2.1, hstp.2.2.2⟩
    exact sub_re (SubT.cons (lk_eq rfl (by first | rfl | simp)) (SubT.cons (lk_eq rfl (by first | rfl | simp)) (SubT.cons (lk_eq rfl (by first | rfl | simp)) (SubT.cons (lk_eq rfl (by exact int_imm (by push_cast; omega))) (SubT.nil))))) (SubO.cons (ok_eq rfl (by rfl)) (SubO.cons (ok_eq rfl (by rfl)) (SubO.cons (ok_eq rfl (by rfl)) (SubO.nil)))) rfl rfl (LO hL rfl)
  try simp only [↓cqA, cqB] at c1
  refine awp_exit ?_; refine thenQ_exit (thenQ_exit (inQ_hit ?_)); refine thenQ_nil ?_; refine awp_seq ?_; refine awp_region ?_; refine awps_stp0 rfl rfl (by decide) (stp_move (.inl rfl) rfl) ?_; refine awps_stp0 rfl rfl (by decide) (stp_move (.inl rfl) rfl) ?_; refine awps_stp0 rfl rfl (by decide) (stp_slvL rfl sl_S_api_Kept rfl rfl (by omega) (by omega) (by omega)) ?_
  refine awps_clear a.1 rfl rfl rfl sl_S_api_Kept zv_api_Kept rfl rfl rfl rfl (fun _ => by rw [if_neg (by omega)]; simp) (by omega) (fun es2 hl2 hk2 => ?_); refine awps_nil ?_; refine thenQ_nil ?_; refine awp_seq ?_; refine awp_region ?_; refine awps_stp0 rfl rfl (by decide) (stp_move (.inl rfl) rfl) ?_; refine awps_stp0 rfl rfl (by decide) (stp_move (.inl rfl) rfl) ?_
  refine awps_stp0 rfl rfl (by decide) (stp_slvH rfl sl_S_api_Kept rfl rfl (by omega) (by omega) (by omega)) ?_; refine awps_stp0 rfl rfl (by decide) (stp_move (.inr rfl) rfl) ?_; refine awps_nil ?_; refine thenQ_nil ?_; refine awp_ret ?_
  change retQ _ _ _ _ _ _ _
  refine retO (O' := (0, _) :: [(3, .box [.fn 130 [.ptr 90 0]]), (90, .box [iv t])]) (.inl rfl) (resAs_tmp rfl resAs_nil) (SubO.cons rfl (SubO.cons rfl (SubO.cons rfl SubO.nil))) ?_ ?_ (LO hL rfl) ?_
  · rfl
  · rfl
  have hall : ts.take (m + 1 + k) = ts := List.take_of_length_le (by omega)
  have h1 := hp.1
  have h4 := hp.2.2.2.1
  rw [hall] at h1 h4
  refine ⟨es2, by rw [hl2]; exact hp.2.2.1, fun q x hq => ?_, ?_, rfl⟩
  · have hqa := (List.getElem?_eq_some_iff.1 hq).1
    rw [hk2 q (by omega)]
    exact h4 q x hq
  · rw [← h1]; simp [resV]
theorem Some_si_ok (t : Int) (l : List Kp) (hw : ∀ b ∈ l, b.wf) : AC Tryz.prog 128 [.dat false 7 (kpDs l), .fn 130 [.ptr 90 0]] [(90, .box [iv t])] (fun r O => r = .tup [.dat false 7 (kpDs (someL l (sinceB t))), iv (someE l)] ∧ O = [(90, .box [iv t])]) := by
  refine AC_leP (Post := fun r O => ((listB l = false ∧ r = .tup [.imm (.slice none 0 0), iv 1]) ∨ (listB l = true ∧ r = .tup [.dat false 7 (kpDs (l.filter (fun k => (sinceB t) k.f))), iv 0])) ∧ O = [(90, .box [iv t])]) ?_ (fun r O' h => by
    obtain ⟨⟨h1, rfl⟩ | ⟨h1, rfl⟩, rfl⟩ := h
    · exact ⟨_, .tup (.cons (.nil (f := false) (k := 7)) (.cons .refl .nil)), by rw [someL, someE, if_neg (by simp [h1]), if_neg (by simp [h1])]; rfl, rfl⟩
    · exact ⟨_, .refl, by rw [someL, someE, if_pos h1, if_pos h1], rfl⟩)
  refine AC_intro Tryz.func128 rfl Tryz.ntmps128 (Nat.le_of_ble_eq_true rfl) fun c hL hQ hDD => ?_; refine awp_seq ?_; refine awp_region ?_; refine awps_stp1 rfl rfl (by decide) (stp_box 3 rfl rfl rfl) rfl ?_; refine awps_stp0 rfl rfl (by decide) (stp_move (.inr rfl) rfl) ?_; refine awps_stp0 rfl rfl (by decide) (stp_move (.inr rfl) rfl) ?_; refine awps_nil ?_; refine thenQ_nil ?_
  refine awp_seq ?_; refine awp_seq ?_; refine awp_region ?_; refine awps_stp0 rfl rfl (by decide) (stp_move (.inl rfl) rfl) ?_; refine awps_call (avs := [_]) true rfl rfl rfl (by decide) en_facts_List rfl rfl (List_ok l hw) rfl rfl ?_; refine awps_stp0 rfl rfl (by decide) (stp_not rfl rfl) ?_; refine awps_nil ?_; refine thenQ_nil ?_; refine awp_cond rfl (fun c0 => ?_) (fun c0 => ?_)
  · try simp only [↓cqA, cqB] at c0
    refine awp_seq ?_; refine awp_region ?_; refine awps_stp0 rfl rfl (by decide) (stp_move (.inr rfl) rfl) ?_; refine awps_stp0 rfl rfl (by decide) (stp_move (.inr rfl) rfl) ?_; refine awps_nil ?_; refine thenQ_nil ?_; refine awp_ret ?_; refine thenQ_ret (?_)
    change retQ _ _ _ _ _ _ _
    refine retO (O' := [(90, .box [iv t])]) (.inl rfl) (resAs_tmp rfl (resAs_tmp rfl resAs_nil)) (SubO.cons rfl SubO.nil) ?_ ?_ (LO hL rfl) ?_
    · rfl
    · rfl
    exact ⟨.inl ⟨by simp_all, rfl⟩, rfl⟩
  try simp only [↓cqA, cqB] at c0
  have hlb : listB l = true := by simp_all
  obtain ⟨hl3, hlm⟩ := listB_may hlb
  have hmay : ∀ k ∈ l, mayT k.f.t = true := fun k hk => factB_may (hlm k hk)
  have hbl := kpDs_length l
  have hfl := kpDs_length (l.filter (fun k => (sinceB t) k.f))
  refine awp_skip ?_; refine thenQ_nil ?_; refine awp_seq ?_; refine awp_region ?_; refine awps_stp0 rfl rfl (by decide) (stp_move (.inl rfl) rfl) ?_; refine awps_callP (avs := [_]) true rfl rfl rfl (by decide) en_facts_Owns rfl rfl (Owns_ok l hl3 hw hmay) (rfl) (passO .nil) (by rintro r O' ⟨_, rfl⟩; exact frB rfl) (by rintro - r O' ⟨rfl, rfl⟩; exact ⟨rfl, rfl⟩) ?_
  rintro r O' ⟨rfl, rfl⟩
  refine awps_stp0 rfl rfl (by decide) (stp_makeFunc (vs := [_]) rfl rfl) ?_; refine awps_via ⟨[(12, .row 0)], (0, .rowd 92 7 false (kpDs (l.filter (fun k => (sinceB t) k.f)))) :: [(90, .box [iv t])]⟩ (fun Q2 K => ?_) ?_
  · refine awps_sub (sub_untag hQ) ?_
    refine awps_sub (sub_re (T1 := [(10, .row 2), (11, .fn 191 [.ptr 3 0])]) (O1 := [(2, .rowd 92 7 false (kpDs l)), (3, .box [.fn 130 [.ptr 90 0]]), (90, .box [iv t])]) (SubT.cons rfl (SubT.cons rfl SubT.nil)) (SubO.cons rfl (SubO.cons rfl (SubO.cons rfl SubO.nil))) rfl rfl (LOs hL rfl)) ?_; refine awps_sub (sub_rename 2 0 (nL hL rfl) (nL hL rfl)) ?_; refine awps_open (l := 0) rfl (by decide) (nL hL rfl) (fun he => ?_) (fun cap h1 h2 => ?_)
    · have hl0 : l = [] := by cases l with
        | nil => rfl
        | cons a l => simp [kpDs] at he
      rw [hl0] at K
      refine awps_callP (avs := [_, _]) false rfl rfl rfl (by decide) en_slices_DeleteFunc_api_Kept_api_Kept rfl rfl (DeleteNil_kp_ok _) rfl (passO .nil) (by rintro r O' ⟨_, rfl⟩; exact frB rfl) (by rintro h; cases h) ?_
      rintro r O' ⟨rfl, rfl⟩
      exact awps_sub (Sub.trans (sub_nil_row (t := 12) (l := 9) 92 7 false rfl rfl) (Sub.trans (sub_re (T1 := [(12, .row 9)]) (O1 := [(9, .rowd 92 7 false []), (90, .box [iv t])]) (SubT.cons rfl SubT.nil) (SubO.cons rfl (SubO.cons rfl SubO.nil)) rfl rfl (LOs hL rfl)) (Sub.trans (sub_rename 9 0 (nL hL rfl) (nL hL rfl)) (sub_re (SubT.cons rfl SubT.nil) (SubO.cons rfl (SubO.cons rfl SubO.nil)) rfl rfl (LOs hL rfl))))) K
    · rw [hbl] at h1 ⊢
      refine awps_callP (avs := [_, _]) false rfl rfl rfl (by decide) en_slices_DeleteFunc_api_Kept_api_Kept rfl rfl (DeleteFunc_si_ok t l (by omega) cap h1 h2 (fun b => !((sinceB t) b.f)) (fun b hb => Some1_si_ok t b (hw b hb))) rfl (passO (.cons rfl trivial rfl (.cons rfl trivial rfl (.cons rfl trivial rfl .nil)))) (by rintro r O' ⟨A', _, _, _, rfl⟩; exact frB rfl) (by rintro h; cases h) ?_
      rintro r O' ⟨A', hA1, hA2, rfl, rfl⟩
      rw [filter_nk] at hA2 ⊢
      exact awps_sub (Sub.trans (sub_close (l := 0) (cap := cap) (n := (l.filter (fun k => (sinceB t) k.f)).length) (kpDs (l.filter (fun k => (sinceB t) k.f))) rfl (nL hL rfl) ⟨_, arr_split hA2⟩ hfl.symm hA1.symm) (sub_re (SubT.cons (lk_eq rfl (by simp [AV.rp, clV])) SubT.nil) (SubO.cons rfl (SubO.cons rfl SubO.nil)) rfl rfl (LOs hL rfl))) K
  refine awps_stp0 rfl rfl (by decide) (stp_move (.inr rfl) rfl) ?_; refine awps_sub (sub_freeze (l := 0) rfl (by decide) (nL hL rfl) rfl rfl) ?_; refine awps_stp0 rfl rfl (by decide) (stp_move (.inr rfl) rfl) ?_; refine awps_nil ?_; refine thenQ_nil ?_; refine awp_ret ?_
  change retQ _ _ _ _ _ _ _
  refine retO (O' := [(90, .box [iv t])]) (.inl rfl) (resAs_tmp rfl (resAs_tmp rfl resAs_nil)) (SubO.cons rfl SubO.nil) ?_ ?_ (LO hL rfl) ?_
  · rfl
  · rfl
  exact ⟨.inr ⟨hlb, rfl⟩, rfl⟩
theorem Some1_nm_ok (s : ByteArray) (n : Int) (k : Kp) (hk : k.wf) : AC Tryz.prog 191 [kpA k, .ptr 3 0] [(3, .box [.fn 129 [.ptr 90 0, .ptr 91 0]]), (90, .box [sv s]), (91, .box [iv n])] (fun r O => r = bv (!((nmB s n) k.f)) ∧ O = [(3, .box [.fn 129 [.ptr 90 0, .ptr 91 0]]), (90, .box [sv s]), (91, .box [iv n])]) := by
  have hkf := hk.2
  refine AC_intro Tryz.func191 rfl Tryz.ntmps191 (Nat.le_of_ble_eq_true rfl) fun c hL hQ hDD => ?_; refine awp_seq ?_; refine awp_region ?_; refine awps_stp1 rfl rfl (by decide) (stp_box 2 rfl rfl rfl) rfl ?_; refine awps_stp0 rfl rfl (by decide) (stp_move (.inr rfl) rfl) ?_; refine awps_nil ?_; refine thenQ_nil ?_; refine awp_seq ?_; refine awp_region ?_; refine awps_stp0 rfl rfl (by decide) (stp_load rfl tf_func_api_Fact_bool rfl rfl rfl rfl rfl) ?_; refine awps_stp0 rfl rfl (by decide) (stp_fieldAddr rfl fo_api_Kept_1 rfl) ?_
  refine awps_stp0 rfl rfl (by decide) (stp_load rfl tf_api_Fact rfl rfl rfl rfl rfl) ?_; refine awps_callP (avs := [_]) false rfl rfl rfl (by decide) en_facts_Named_1 rfl rfl (named1_ok s n k.f) (rfl) (passO (.cons rfl trivial rfl (.cons rfl trivial rfl .nil))) (by rintro r O' ⟨_, rfl⟩; exact frB rfl) (by rintro h; cases h) ?_
  rintro r O' ⟨rfl, rfl⟩
  refine awps_stp0 rfl rfl (by decide) (stp_not rfl rfl) ?_; refine awps_stp0 rfl rfl (by decide) (stp_move (.inr rfl) rfl) ?_; refine awps_nil ?_; refine thenQ_nil ?_; refine awp_ret ?_
  -- leaf 
  change retQ _ _ _ _ _ _ _
  refine retO (O' := [(3, _), (90, .box [sv s]), (91, .box [iv n])]) (.inl rfl) (resAs_tmp rfl resAs_nil) (SubO.cons rfl (SubO.cons rfl (SubO.cons rfl SubO.nil))) ?_ ?_ (LO hL rfl) ?_
  · rfl
  · rfl
  exact ⟨rfl, rfl⟩
theorem IndexFuncV_nm_ok (s : ByteArray) (n : Int) (ts : List Kp) (hlen : ts.length ≤ 1000000000) (cap : Nat) (A : List (Option (List D))) (hA : ∀ (q : Nat) (x : Kp), ts[q]? = some x → A[q]? = some (some (kpD x))) (p : Kp → Bool)
    (hstep : ∀ u ∈ ts, AC Tryz.prog 191 ((fun b => kpA b) u :: [.ptr 3 0]) [(3, .box [.fn 129 [.ptr 90 0, .ptr 91 0]]), (90, .box [sv s]), (91, .box [iv n])] (fun r O => r = bv (p u) ∧ O = [(3, .box [.fn 129 [.ptr 90 0, .ptr 91 0]]), (90, .box [sv s]), (91, .box [iv n])])) :
    AC Tryz.prog 188 [.vw 0 0 ts.length cap, .fn 191 [.ptr 3 0]] ((0, .arr 92 7 false A) :: [(3, .box [.fn 129 [.ptr 90 0, .ptr 91 0]]), (90, .box [sv s]), (91, .box [iv n])]) (fun r O => ∃ (m : Nat) (i : Int), (m ≤ ts.length ∧ ∀ x ∈ ts.take m, p x = false) ∧ ((m < ts.length ∧ (∃ x, ts[m]? = some x ∧ p x = true) ∧ i = m) ∨ (m = ts.length ∧ i = -1)) ∧ r = iv i ∧ O = (0, .arr 92 7 false A) :: [(3, .box [.fn 129 [.ptr 90 0, .ptr 91 0]]), (90, .box [sv s]), (91, .box [iv n])]) := by
  refine AC_intro Tryz.func188 rfl Tryz.ntmps188 (Nat.le_of_ble_eq_true rfl) fun c hL hQ hDD => ?_; refine awp_seq ?_; refine awp_region ?_; refine awps_stp0 rfl rfl (by decide) (stp_move (.inr rfl) rfl) ?_; refine awps_nil ?_; refine thenQ_nil ?_; refine awp_seq ?_; refine awp_seq ?_; refine awp_region ?_; refine awps_stp0 rfl rfl (by decide) (stp_move (.inl rfl) rfl) ?_; refine awps_stp0 rfl rfl (by decide) (stp_len_vw rfl sl_S_api_Kept rfl) ?_; refine awps_stp0 rfl rfl (by decide) (stp_move (.inl rfl) rfl) ?_; refine awps_nil ?_; refine thenQ_nil ?_; refine awp_block ?_
  refine awp_while (ts.length) (fun k => k ≤ ts.length ∧ ∀ x ∈ ts.take k, p x = false) (fun k => ⟨[(0, .vw 0 0 ts.length cap), (1, .fn 191 [.ptr 3 0]), (7, iv (ts.length : Int)), (8, iv (k : Int))], [(0, .arr 92 7 false A), (3, .box [.fn 129 [.ptr 90 0, .ptr 91 0]]), (90, .box [sv s]), (91, .box [iv n])]⟩) (⟨by omega, fun x hx => by simp at hx⟩) ?_ (fun k hk hp => ?_)
  · exact sub_re (SubT.cons (lk_eq rfl (by first | rfl | simp)) (SubT.cons (lk_eq rfl (by first | rfl | simp)) (SubT.cons (lk_eq rfl (by first | rfl | simp)) (SubT.cons (lk_eq rfl (by first | rfl | simp)) (SubT.nil))))) (SubO.cons (ok_eq rfl (by rfl)) (SubO.cons (ok_eq rfl (by rfl)) (SubO.cons (ok_eq rfl (by rfl)) (SubO.cons (ok_eq rfl (by rfl)) (SubO.nil))))) rfl rfl (LO hL rfl)
  refine awp_seq ?_; refine awp_region ?_; refine awps_stp0 rfl rfl (by decide) (stp_binI rfl rfl rfl rfl) ?_; refine awps_nil ?_; refine thenQ_nil ?_; refine awp_seq ?_; refine awp_cond rfl (fun c0 => ?_) (fun c0 => ?_)
  · try simp only [↓cqA, cqB] at c0
    obtain ⟨u, hu⟩ := get_of_lt (l := ts) (k := k) (by omega)
    refine awp_skip ?_; refine thenQ_nil ?_; refine awp_seq ?_; refine awp_block ?_; refine awp_seq ?_; refine awp_region ?_; refine awps_stp0 rfl rfl (by decide) (stp_move (.inl rfl) rfl) ?_; refine awps_stp0 rfl rfl (by decide) (stp_move (.inr rfl) rfl) ?_; refine awps_nil ?_; refine thenQ_nil ?_; refine awp_seq ?_; refine awp_region ?_
    refine awps_stp0 rfl rfl (by decide) (stp_move (.inl rfl) rfl) ?_; refine awps_stp0 rfl rfl (by decide) (stp_move (.inl rfl) rfl) ?_; refine awps_stp0 rfl rfl (by decide) (stp_move (.inl rfl) rfl) ?_; refine awps_stp0 rfl rfl (by decide) (stp_indexAddr_vw rfl sl_S_api_Kept rfl rfl (by omega) (by omega)) ?_; refine awps_stp0 rfl rfl (by decide) (stp_load_arr (i := k) (j := 0) rfl tf_api_Kept rfl rfl (by simp) (hA k u hu) (by decide) (by decide) rfl) ?_
    refine awps_callP (avs := [_]) false rfl rfl rfl (by decide) en_facts_some_1 rfl rfl (hstep u (List.mem_of_getElem? hu)) (rfl) (passO (.cons rfl trivial rfl (.cons rfl trivial rfl (.cons rfl trivial rfl .nil)))) (by rintro r O' ⟨_, rfl⟩; exact frB rfl) (by rintro h; cases h) ?_
    rintro r O' ⟨rfl, rfl⟩
    refine awps_nil ?_; refine thenQ_nil ?_; refine awp_cond rfl (fun c1 => ?_) (fun c1 => ?_)
    · try simp only [↓cqA, cqB] at c1
      refine awp_seq ?_; refine awp_region ?_; refine awps_stp0 rfl rfl (by decide) (stp_move (.inl rfl) rfl) ?_; refine awps_stp0 rfl rfl (by decide) (stp_move (.inr rfl) rfl) ?_; refine awps_nil ?_; refine thenQ_nil ?_; refine awp_ret ?_; refine inQ_ret (thenQ_ret (thenQ_ret (inQ_ret (thenQ_ret (?_)))))
      change retQ _ _ _ _ _ _ _
      refine retO (O' := (0, _) :: [(3, .box [.fn 129 [.ptr 90 0, .ptr 91 0]]), (90, .box [sv s]), (91, .box [iv n])]) (.inl rfl) (resAs_tmp rfl resAs_nil) (SubO.cons rfl (SubO.cons rfl (SubO.cons rfl (SubO.cons rfl SubO.nil)))) ?_ ?_ (LO hL rfl) ?_
      · rfl
      · rfl
      exact ⟨k, _, ⟨by omega, hp.2⟩, .inl ⟨by omega, ⟨u, hu, c1⟩, rfl⟩, rfl, rfl⟩
    try simp only [↓cqA, cqB] at c1
    refine awp_skip ?_; refine inQ_nil ?_; refine thenQ_nil ?_; refine awp_region ?_; refine awps_stp0 rfl rfl (by decide) (stp_add rfl rfl rfl (by omega)) ?_; refine awps_stp0 rfl rfl (by decide) (stp_move (.inl rfl) rfl) ?_; refine awps_nil ?_; refine thenQ_nil ?_; refine ⟨?_, ?_, ?_⟩
    · skip
      omega
    · skip
      refine ⟨by omega, fun x hx => ?_⟩
      rw [take_snoc hu] at hx
      rcases List.mem_append.1 hx with h | h
      · exact hp.2 x h
      · rw [List.mem_singleton.1 h]; exact c1
    exact sub_re (SubT.cons (lk_eq rfl (by first | rfl | simp)) (SubT.cons (lk_eq rfl (by first | rfl | simp)) (SubT.cons (lk_eq rfl (by first | rfl | simp)) (SubT.cons (lk_eq rfl (by first | rfl | simp)) (SubT.nil))))) (SubO.cons (ok_eq rfl (by rfl)) (SubO.cons (ok_eq rfl (by rfl)) (SubO.cons (ok_eq rfl (by rfl)) (SubO.cons (ok_eq rfl (by rfl)) (SubO.nil))))) rfl rfl (LO hL rfl)
  try simp only [↓cqA, cqB] at c0
  refine awp_exit ?_; refine thenQ_exit (thenQ_exit (inQ_hit ?_)); refine thenQ_nil ?_; refine awp_seq ?_; refine awp_region ?_; refine awps_stp0 rfl rfl (by decide) (stp_move (.inr rfl) rfl) ?_; refine awps_nil ?_; refine thenQ_nil ?_; refine awp_ret ?_
  change retQ _ _ _ _ _ _ _
  refine retO (O' := (0, _) :: [(3, .box [.fn 129 [.ptr 90 0, .ptr 91 0]]), (90, .box [sv s]), (91, .box [iv n])]) (.inl rfl) (resAs_tmp rfl resAs_nil) (SubO.cons rfl (SubO.cons rfl (SubO.cons rfl (SubO.cons rfl SubO.nil)))) ?_ ?_ (LO hL rfl) ?_
  · rfl
  · rfl
  exact ⟨k, _, ⟨by omega, hp.2⟩, .inr ⟨by omega, rfl⟩, rfl, rfl⟩
theorem DeleteFunc_nm_ok (s : ByteArray) (n : Int) (ts : List Kp) (hlen : ts.length ≤ 1000000000) (cap : Nat) (hc1 : ts.length ≤ cap) (hc2 : cap ≤ maxLen) (p : Kp → Bool)
    (hstep : ∀ u ∈ ts, AC Tryz.prog 191 ((fun b => kpA b) u :: [.ptr 3 0]) [(3, .box [.fn 129 [.ptr 90 0, .ptr 91 0]]), (90, .box [sv s]), (91, .box [iv n])] (fun r O => r = bv (p u) ∧ O = [(3, .box [.fn 129 [.ptr 90 0, .ptr 91 0]]), (90, .box [sv s]), (91, .box [iv n])])) :
    AC Tryz.prog 190 [.vw 0 0 ts.length cap, .fn 191 [.ptr 3 0]] ((0, .arr 92 7 false ((ts.map kpD).map some ++ List.replicate (cap - ts.length) none)) :: [(3, .box [.fn 129 [.ptr 90 0, .ptr 91 0]]), (90, .box [sv s]), (91, .box [iv n])]) (fun r O => ∃ A' : List (Option (List D)), A'.length = cap ∧ (∀ (q : Nat) (x : Kp), (ts.filter (fun u => !(p u)))[q]? = some x → A'[q]? = some (some (kpD x))) ∧ r = .vw 0 0 (ts.filter (fun u => !(p u))).length cap ∧ O = (0, .arr 92 7 false A') :: [(3, .box [.fn 129 [.ptr 90 0, .ptr 91 0]]), (90, .box [sv s]), (91, .box [iv n])]) := by
  have hml : maxLen = 9223372036854775807 := rfl
  have hAl : ((ts.map kpD).map some ++ List.replicate (cap - ts.length) (none : Option (List D))).length = cap := by simp; omega
  refine AC_intro Tryz.func190 rfl Tryz.ntmps190 (Nat.le_of_ble_eq_true rfl) fun c hL hQ hDD => ?_; refine awp_seq ?_; refine awp_region ?_; refine awps_stp0 rfl rfl (by decide) (stp_move (.inr rfl) rfl) ?_; refine awps_nil ?_; refine thenQ_nil ?_; refine awp_seq ?_; refine awp_region ?_; refine awps_stp0 rfl rfl (by decide) (stp_move (.inl rfl) rfl) ?_; refine awps_stp0 rfl rfl (by decide) (stp_move (.inl rfl) rfl) ?_
  refine awps_callP (avs := [_, _]) false rfl rfl rfl (by decide) en_slices_IndexFunc_api_Kept_api_Kept rfl rfl (IndexFuncV_nm_ok s n ts hlen cap _ (arr_start kpD ts _) p hstep) (rfl) (passO (.cons rfl trivial rfl (.cons rfl trivial rfl (.cons rfl trivial rfl (.cons rfl trivial rfl .nil))))) (by rintro r O' ⟨m, i, _, _, _, rfl⟩; exact frB rfl) (by rintro h; cases h) ?_
  rintro r O' ⟨m, i, ⟨hm1, hno⟩, hc, rfl, rfl⟩
  have hkeep : (ts.take m).filter (fun u => !(p u)) = ts.take m := List.filter_eq_self.2 fun x hx => by rw [hno x hx]; rfl
  refine awps_stp0 rfl rfl (by decide) (stp_move (.inr rfl) rfl) ?_; refine awps_nil ?_; refine thenQ_nil ?_; refine awp_seq ?_; refine awp_seq ?_; refine awp_region ?_; refine awps_stp0 rfl rfl (by decide) (stp_move (.inl rfl) rfl) ?_; refine awps_stp0 rfl rfl (by decide) (stp_binI rfl rfl rfl rfl) ?_; refine awps_nil ?_; refine thenQ_nil ?_; refine awp_cond rfl (fun c0 => ?_) (fun c0 => ?_)
  · try simp only [↓cqA, cqB] at c0
    refine awp_seq ?_; refine awp_region ?_; refine awps_stp0 rfl rfl (by decide) (stp_move (.inl rfl) rfl) ?_; refine awps_stp0 rfl rfl (by decide) (stp_move (.inr rfl) rfl) ?_; refine awps_nil ?_; refine thenQ_nil ?_; refine awp_ret ?_; refine thenQ_ret (?_)
    change retQ _ _ _ _ _ _ _
    refine retO (O' := (0, _) :: [(3, .box [.fn 129 [.ptr 90 0, .ptr 91 0]]), (90, .box [sv s]), (91, .box [iv n])]) (.inl rfl) (resAs_tmp rfl resAs_nil) (SubO.cons rfl (SubO.cons rfl (SubO.cons rfl (SubO.cons rfl SubO.nil)))) ?_ ?_ (LO hL rfl) ?_
    · rfl
    · rfl
    have hmt : m = ts.length := by rcases hc with ⟨_, _, h⟩ | ⟨h, _⟩ <;> omega
    rw [hmt, List.take_length] at hkeep
    exact ⟨_, hAl, by rw [hkeep]; exact arr_start kpD ts _, by rw [hkeep]; rfl, rfl⟩
  try simp only [↓cqA, cqB] at c0
  obtain ⟨hmt, him, x0, hx0, hpx⟩ : m < ts.length ∧ i = (m : Int) ∧ ∃ x, ts[m]? = some x ∧ p x = true := by
    rcases hc with ⟨h1, h2, h3⟩ | ⟨_, h⟩
    · exact ⟨h1, h3, h2⟩
    · omega
  subst him
  have hq0 : (ts.take (m + 1 + 0)).filter (fun u => !(p u)) = ts.take m := by rw [Nat.add_zero, filter_snoc _ hx0, hkeep, hpx]; simp
  have hq1 : m = ((ts.take (m + 1 + 0)).filter (fun u => !(p u))).length := by rw [hq0]; simp; omega
  have hq2 : ∀ (q : Nat) (x : Kp), ((ts.take (m + 1 + 0)).filter (fun u => !(p u)))[q]? = some x → ((ts.map kpD).map some ++ List.replicate (cap - ts.length) none)[q]? = some (some (kpD x)) := fun q x hq => by
    rw [hq0, List.getElem?_take] at hq
    split at hq
    · exact arr_start kpD ts _ q x hq
    · cases hq
  refine awp_skip ?_; refine thenQ_nil ?_; refine awp_seq ?_; refine awp_seq ?_; refine awp_region ?_; refine awps_stp0 rfl rfl (by decide) (stp_move (.inl rfl) rfl) ?_; refine awps_stp0 rfl rfl (by decide) (stp_add rfl rfl rfl (by omega)) ?_; refine awps_stp0 rfl rfl (by decide) (stp_move (.inr rfl) rfl) ?_; refine awps_nil ?_; refine thenQ_nil ?_; refine awp_block ?_
  refine awp_whileE (α := Nat × List (Option (List D))) (ts.length) (fun k a => a.1 = ((ts.take (m + 1 + k)).filter (fun u => !(p u))).length ∧ m + 1 + k ≤ ts.length ∧ a.2.length = cap ∧ (∀ (q : Nat) (x : Kp), ((ts.take (m + 1 + k)).filter (fun u => !(p u)))[q]? = some x → a.2[q]? = some (some (kpD x))) ∧ ∀ (q : Nat) (x : Kp), m + 1 + k ≤ q → ts[q]? = some x → a.2[q]? = some (some (kpD x))) (fun k a => ⟨[(0, .vw 0 0 ts.length cap), (1, .fn 191 [.ptr 3 0]), (5, iv (a.1 : Int)), (6, iv ((m + 1 + k : Nat) : Int))], [(0, .arr 92 7 false a.2), (3, .box [.fn 129 [.ptr 90 0, .ptr 91 0]]), (90, .box [sv s]), (91, .box [iv n])]⟩) ((m, (ts.map kpD).map some ++ List.replicate (cap - ts.length) none)) (⟨hq1, by omega, hAl, hq2, fun q x _ hq => arr_start kpD ts _ q x hq⟩) ?_ (fun k a hk hp => ?_)
  · exact sub_re (SubT.cons (lk_eq rfl (by first | rfl | simp)) (SubT.cons (lk_eq rfl (by first | rfl | simp)) (SubT.cons (lk_eq rfl (by first | rfl | simp)) (SubT.cons (lk_eq rfl (by exact int_imm (by push_cast; omega))) (SubT.nil))))) (SubO.cons (ok_eq rfl (by rfl)) (SubO.cons (ok_eq rfl (by rfl)) (SubO.cons (ok_eq rfl (by rfl)) (SubO.cons (ok_eq rfl (by rfl)) (SubO.nil))))) rfl rfl (LO hL rfl)
  have hfl := filter_take_le (fun u => !(p u)) ts (m + 1 + k)
  refine awp_seq ?_; refine awp_seq ?_; refine awp_region ?_; refine awps_stp0 rfl rfl (by decide) (stp_move (.inl rfl) rfl) ?_; refine awps_stp0 rfl rfl (by decide) (stp_move (.inl rfl) rfl) ?_; refine awps_stp0 rfl rfl (by decide) (stp_len_vw rfl sl_S_api_Kept rfl) ?_; refine awps_stp0 rfl rfl (by decide) (stp_binI rfl rfl rfl rfl) ?_; refine awps_nil ?_; refine thenQ_nil ?_; refine awp_cond rfl (fun c1 => ?_) (fun c1 => ?_)
  · try simp only [↓cqA, cqB] at c1
    obtain ⟨u, hu⟩ := get_of_lt (l := ts) (k := m + 1 + k) (by omega)
    have hfs := filter_snoc (fun u => !(p u)) hu
    refine awp_skip ?_; refine thenQ_nil ?_; refine awp_seq ?_; refine awp_block ?_; refine awp_seq ?_; refine awp_region ?_; refine awps_stp0 rfl rfl (by decide) (stp_move (.inl rfl) rfl) ?_; refine awps_stp0 rfl rfl (by decide) (stp_move (.inl rfl) rfl) ?_; refine awps_stp0 rfl rfl (by decide) (stp_indexAddr_vw rfl sl_S_api_Kept rfl rfl (by omega) (by omega)) ?_
    refine awps_stp0 rfl rfl (by decide) (stp_load_arr (i := m + 1 + k) (j := 0) rfl tf_api_Kept rfl rfl (by simp only [Nat.zero_add, Int.toNat_natCast, Nat.add_zero]) (hp.2.2.2.2 _ u (Nat.le_refl _) hu) (by decide) (by decide) rfl) ?_; refine awps_stp1 rfl rfl (by decide) (stp_alloc 7 rfl zv_api_Kept rfl) rfl ?_; refine awps_store rfl rfl rfl tf_api_Kept rfl rfl rfl rfl rfl rfl rfl rfl rfl ?_; refine awps_nil ?_; refine thenQ_nil ?_; refine awp_seq ?_; refine awp_region ?_; refine awps_stp0 rfl rfl (by decide) (stp_move (.inl rfl) rfl) ?_
    refine awps_stp0 rfl rfl (by decide) (stp_load_all rfl tf_api_Kept rfl rfl rfl rfl) ?_; refine awps_callP (avs := [_]) false rfl rfl rfl (by decide) en_facts_some_1 rfl rfl (hstep u (List.mem_of_getElem? hu)) (rfl) (passO (.cons rfl trivial rfl (.cons rfl trivial rfl (.cons rfl trivial rfl .nil)))) (by rintro r O' ⟨_, rfl⟩; exact frB rfl) (by rintro h; cases h) ?_
    rintro r O' ⟨rfl, rfl⟩
    refine awps_stp0 rfl rfl (by decide) (stp_not rfl rfl) ?_; refine awps_nil ?_; refine thenQ_nil ?_; refine awp_cond rfl (fun c2 => ?_) (fun c2 => ?_)
    · try simp only [↓cqA, cqB] at c2
      have hpu : p u = false := by simpa using c2
      let a2 : Nat × List (Option (List D)) := (a.1 + 1, a.2.set a.1 (some (kpD u)))
      have hstp : a2.1 = ((ts.take (m + 1 + (k + 1))).filter (fun u => !(p u))).length ∧ a2.2.length = cap ∧ (∀ (q : Nat) (x : Kp), ((ts.take (m + 1 + (k + 1))).filter (fun u => !(p u)))[q]? = some x → a2.2[q]? = some (some (kpD x))) ∧ ∀ (q : Nat) (x : Kp), m + 1 + (k + 1) ≤ q → ts[q]? = some x → a2.2[q]? = some (some (kpD x)) := by
        rw [hpu] at hfs
        rw [show m + 1 + (k + 1) = m + 1 + k + 1 by omega, hfs]
        refine ⟨by simp [a2, hp.1], by simp [a2, hp.2.2.1], fun q x hq => ?_, fun q x hq hx => ?_⟩
        · simp only [a2, List.getElem?_set]
          by_cases hqa : a.1 = q
          · subst hqa
            rw [if_pos rfl, if_pos (by omega)]
            rw [List.getElem?_append_right (by omega)] at hq
            simp [hp.1] at hq
            rw [hq]
          · rw [if_neg hqa]
            rcases Nat.lt_or_ge q a.1 with h1 | h1
            · rw [List.getElem?_append_left (by omega)] at hq
              exact hp.2.2.2.1 q x hq
            · have := (List.getElem?_eq_some_iff.1 hq).1
              simp at this; omega
        · simp only [a2, List.getElem?_set]
          rw [if_neg (by omega)]
          exact hp.2.2.2.2 q x (by omega) hx
      refine awp_seq ?_; refine awp_region ?_; refine awps_stp0 rfl rfl (by decide) (stp_move (.inl rfl) rfl) ?_; refine awps_stp0 rfl rfl (by decide) (stp_move (.inl rfl) rfl) ?_; refine awps_stp0 rfl rfl (by decide) (stp_load_all rfl tf_api_Kept rfl rfl rfl rfl) ?_
      refine awps_stp0 rfl rfl (by decide) (stp_indexAddr_vw rfl sl_S_api_Kept rfl rfl (by omega) (by omega)) ?_; refine awps_storeArr a.1 rfl rfl rfl tf_api_Kept rfl rfl (by simp) (by omega) rfl rfl rfl rfl rfl rfl ?_; refine awps_nil ?_; refine thenQ_nil ?_; refine awp_region ?_; refine awps_stp0 rfl rfl (by decide) (stp_move (.inl rfl) rfl) ?_
      refine awps_stp0 rfl rfl (by decide) (stp_add rfl rfl rfl (by omega)) ?_; refine awps_stp0 rfl rfl (by decide) (stp_move (.inr rfl) rfl) ?_; refine awps_nil ?_; refine inQ_nil ?_; refine thenQ_nil ?_; refine awp_region ?_; refine awps_stp0 rfl rfl (by decide) (stp_move (.inl rfl) rfl) ?_; refine awps_stp0 rfl rfl (by decide) (stp_add rfl rfl rfl (by omega)) ?_; refine awps_stp0 rfl rfl (by decide) (stp_move (.inr rfl) rfl) ?_; refine awps_nil ?_; refine thenQ_nil ?_; refine ⟨?_, a2, ?_, ?_⟩
      · skip
        omega
      · skip
        exact ⟨hstp.1, by omega, hstp.2.1, hstp.2.2.1, hstp.2.2.2⟩
      exact sub_re (SubT.cons (lk_eq rfl (by first | rfl | simp)) (SubT.cons (lk_eq rfl (by first | rfl | simp)) (SubT.cons (lk_eq rfl (by first | rfl | simp)) (SubT.cons (lk_eq rfl (by exact int_imm (by push_cast; omega))) (SubT.nil))))) (SubO.cons (ok_eq rfl (by rfl)) (SubO.cons (ok_eq rfl (by rfl)) (SubO.cons (ok_eq rfl (by rfl)) (SubO.cons (ok_eq rfl (by rfl)) (SubO.nil))))) rfl rfl (LO hL rfl)
    try simp only [↓cqA, cqB] at c2
    have hpu : p u = true := by simpa using c2
    let a2 : Nat × List (Option (List D)) := a
    have hstp : a2.1 = ((ts.take (m + 1 + (k + 1))).filter (fun u => !(p u))).length ∧ a2.2.length = cap ∧ (∀ (q : Nat) (x : Kp), ((ts.take (m + 1 + (k + 1))).filter (fun u => !(p u)))[q]? = some x → a2.2[q]? = some (some (kpD x))) ∧ ∀ (q : Nat) (x : Kp), m + 1 + (k + 1) ≤ q → ts[q]? = some x → a2.2[q]? = some (some (kpD x)) := by
      rw [hpu] at hfs
      rw [show m + 1 + (k + 1) = m + 1 + k + 1 by omega, hfs]
      simp only [Bool.not_true, Bool.false_eq_true, if_false, List.append_nil]
      exact ⟨hp.1, hp.2.2.1, hp.2.2.2.1, fun q x hq hx => hp.2.2.2.2 q x (by omega) hx⟩
    refine awp_skip ?_; refine inQ_nil ?_; refine thenQ_nil ?_; refine awp_region ?_; refine awps_stp0 rfl rfl (by decide) (stp_move (.inl rfl) rfl) ?_; refine awps_stp0 rfl rfl (by decide) (stp_add rfl rfl rfl (by omega)) ?_; refine awps_stp0 rfl rfl (by decide) (stp_move (.inr rfl) rfl) ?_; refine awps_nil ?_; refine thenQ_nil ?_; refine ⟨?_, a2, ?_, ?_⟩
    · skip
      omega
    · skip
      exact ⟨hstp.1, by omega, hstp.2.1, hstp.2.2.1, hstp.2.2.2⟩
    exact sub_re (SubT.cons (lk_eq rfl (by first | rfl | simp)) (SubT.cons (lk_eq rfl (by first | rfl | simp)) (SubT.cons (lk_eq rfl (by first | rfl | simp)) (SubT.cons (lk_eq rfl (by exact int_imm (by push_cast; omega))) (SubT.nil))))) (SubO.cons (ok_eq rfl (by rfl)) (SubO.cons (ok_eq rfl (by rfl)) (SubO.cons (ok_eq rfl (by rfl)) (SubO.cons (ok_eq rfl (by rfl)) (SubO.nil))))) rfl rfl (LO hL rfl)
  try simp only [↓cqA, cqB] at c1
  refine awp_exit ?_; refine thenQ_exit (thenQ_exit (inQ_hit ?_)); refine thenQ_nil ?_; refine awp_seq ?_; refine awp_region ?_; refine awps_stp0 rfl rfl (by decide) (stp_move (.inl rfl) rfl) ?_; refine awps_stp0 rfl rfl (by decide) (stp_move (.inl rfl) rfl) ?_; refine awps_stp0 rfl rfl (by decide) (stp_slvL rfl sl_S_api_Kept rfl rfl (by omega) (by omega) (by omega)) ?_
  refine awps_clear a.1 rfl rfl rfl sl_S_api_Kept zv_api_Kept rfl rfl rfl rfl (fun _ => by rw [if_neg (by omega)]; simp) (by omega) (fun es2 hl2 hk2 => ?_); refine awps_nil ?_; refine thenQ_nil ?_; refine awp_seq ?_; refine awp_region ?_; refine awps_stp0 rfl rfl (by decide) (stp_move (.inl rfl) rfl) ?_; refine awps_stp0 rfl rfl (by decide) (stp_move (.inl rfl) rfl) ?_
  refine awps_stp0 rfl rfl (by decide) (stp_slvH rfl sl_S_api_Kept rfl rfl (by omega) (by omega) (by omega)) ?_; refine awps_stp0 rfl rfl (by decide) (stp_move (.inr rfl) rfl) ?_; refine awps_nil ?_; refine thenQ_nil ?_; refine awp_ret ?_
  change retQ _ _ _ _ _ _ _
  refine retO (O' := (0, _) :: [(3, .box [.fn 129 [.ptr 90 0, .ptr 91 0]]), (90, .box [sv s]), (91, .box [iv n])]) (.inl rfl) (resAs_tmp rfl resAs_nil) (SubO.cons rfl (SubO.cons rfl (SubO.cons rfl (SubO.cons rfl SubO.nil)))) ?_ ?_ (LO hL rfl) ?_
  · rfl
  · rfl
  have hall : ts.take (m + 1 + k) = ts := List.take_of_length_le (by omega)
  have h1 := hp.1
  have h4 := hp.2.2.2.1
  rw [hall] at h1 h4
  refine ⟨es2, by rw [hl2]; exact hp.2.2.1, fun q x hq => ?_, ?_, rfl⟩
  · have hqa := (List.getElem?_eq_some_iff.1 hq).1
    rw [hk2 q (by omega)]
    exact h4 q x hq
  · rw [← h1]; simp [resV]
theorem Some_nm_ok (s : ByteArray) (n : Int) (l : List Kp) (hw : ∀ b ∈ l, b.wf) : AC Tryz.prog 128 [.dat false 7 (kpDs l), .fn 129 [.ptr 90 0, .ptr 91 0]] [(90, .box [sv s]), (91, .box [iv n])] (fun r O => r = .tup [.dat false 7 (kpDs (someL l (nmB s n))), iv (someE l)] ∧ O = [(90, .box [sv s]), (91, .box [iv n])]) := by
  refine AC_leP (Post := fun r O => ((listB l = false ∧ r = .tup [.imm (.slice none 0 0), iv 1]) ∨ (listB l = true ∧ r = .tup [.dat false 7 (kpDs (l.filter (fun k => (nmB s n) k.f))), iv 0])) ∧ O = [(90, .box [sv s]), (91, .box [iv n])]) ?_ (fun r O' h => by
    obtain ⟨⟨h1, rfl⟩ | ⟨h1, rfl⟩, rfl⟩ := h
    · exact ⟨_, .tup (.cons (.nil (f := false) (k := 7)) (.cons .refl .nil)), by rw [someL, someE, if_neg (by simp [h1]), if_neg (by simp [h1])]; rfl, rfl⟩
    · exact ⟨_, .refl, by rw [someL, someE, if_pos h1, if_pos h1], rfl⟩)
  refine AC_intro Tryz.func128 rfl Tryz.ntmps128 (Nat.le_of_ble_eq_true rfl) fun c hL hQ hDD => ?_; refine awp_seq ?_; refine awp_region ?_; refine awps_stp1 rfl rfl (by decide) (stp_box 3 rfl rfl rfl) rfl ?_; refine awps_stp0 rfl rfl (by decide) (stp_move (.inr rfl) rfl) ?_; refine awps_stp0 rfl rfl (by decide) (stp_move (.inr rfl) rfl) ?_; refine awps_nil ?_; refine thenQ_nil ?_
  refine awp_seq ?_; refine awp_seq ?_; refine awp_region ?_; refine awps_stp0 rfl rfl (by decide) (stp_move (.inl rfl) rfl) ?_; refine awps_call (avs := [_]) true rfl rfl rfl (by decide) en_facts_List rfl rfl (List_ok l hw) rfl rfl ?_; refine awps_stp0 rfl rfl (by decide) (stp_not rfl rfl) ?_; refine awps_nil ?_; refine thenQ_nil ?_; refine awp_cond rfl (fun c0 => ?_) (fun c0 => ?_)
  · try simp only [↓cqA, cqB] at c0
    refine awp_seq ?_; refine awp_region ?_; refine awps_stp0 rfl rfl (by decide) (stp_move (.inr rfl) rfl) ?_; refine awps_stp0 rfl rfl (by decide) (stp_move (.inr rfl) rfl) ?_; refine awps_nil ?_; refine thenQ_nil ?_; refine awp_ret ?_; refine thenQ_ret (?_)
    change retQ _ _ _ _ _ _ _
    refine retO (O' := [(90, .box [sv s]), (91, .box [iv n])]) (.inl rfl) (resAs_tmp rfl (resAs_tmp rfl resAs_nil)) (SubO.cons rfl (SubO.cons rfl SubO.nil)) ?_ ?_ (LO hL rfl) ?_
    · rfl
    · rfl
    exact ⟨.inl ⟨by simp_all, rfl⟩, rfl⟩
  try simp only [↓cqA, cqB] at c0
  have hlb : listB l = true := by simp_all
  obtain ⟨hl3, hlm⟩ := listB_may hlb
  have hmay : ∀ k ∈ l, mayT k.f.t = true := fun k hk => factB_may (hlm k hk)
  have hbl := kpDs_length l
  have hfl := kpDs_length (l.filter (fun k => (nmB s n) k.f))
  refine awp_skip ?_; refine thenQ_nil ?_; refine awp_seq ?_; refine awp_region ?_; refine awps_stp0 rfl rfl (by decide) (stp_move (.inl rfl) rfl) ?_; refine awps_callP (avs := [_]) true rfl rfl rfl (by decide) en_facts_Owns rfl rfl (Owns_ok l hl3 hw hmay) (rfl) (passO .nil) (by rintro r O' ⟨_, rfl⟩; exact frB rfl) (by rintro - r O' ⟨rfl, rfl⟩; exact ⟨rfl, rfl⟩) ?_
  rintro r O' ⟨rfl, rfl⟩
  refine awps_stp0 rfl rfl (by decide) (stp_makeFunc (vs := [_]) rfl rfl) ?_; refine awps_via ⟨[(12, .row 0)], (0, .rowd 92 7 false (kpDs (l.filter (fun k => (nmB s n) k.f)))) :: [(90, .box [sv s]), (91, .box [iv n])]⟩ (fun Q2 K => ?_) ?_
  · refine awps_sub (sub_untag hQ) ?_
    refine awps_sub (sub_re (T1 := [(10, .row 2), (11, .fn 191 [.ptr 3 0])]) (O1 := [(2, .rowd 92 7 false (kpDs l)), (3, .box [.fn 129 [.ptr 90 0, .ptr 91 0]]), (90, .box [sv s]), (91, .box [iv n])]) (SubT.cons rfl (SubT.cons rfl SubT.nil)) (SubO.cons rfl (SubO.cons rfl (SubO.cons rfl (SubO.cons rfl SubO.nil)))) rfl rfl (LOs hL rfl)) ?_; refine awps_sub (sub_rename 2 0 (nL hL rfl) (nL hL rfl)) ?_; refine awps_open (l := 0) rfl (by decide) (nL hL rfl) (fun he => ?_) (fun cap h1 h2 => ?_)
    · have hl0 : l = [] := by cases l with
        | nil => rfl
        | cons a l => simp [kpDs] at he
      rw [hl0] at K
      refine awps_callP (avs := [_, _]) false rfl rfl rfl (by decide) en_slices_DeleteFunc_api_Kept_api_Kept rfl rfl (DeleteNil_kp_ok _) rfl (passO .nil) (by rintro r O' ⟨_, rfl⟩; exact frB rfl) (by rintro h; cases h) ?_
      rintro r O' ⟨rfl, rfl⟩
      exact awps_sub (Sub.trans (sub_nil_row (t := 12) (l := 9) 92 7 false rfl rfl) (Sub.trans (sub_re (T1 := [(12, .row 9)]) (O1 := [(9, .rowd 92 7 false []), (90, .box [sv s]), (91, .box [iv n])]) (SubT.cons rfl SubT.nil) (SubO.cons rfl (SubO.cons rfl (SubO.cons rfl SubO.nil))) rfl rfl (LOs hL rfl)) (Sub.trans (sub_rename 9 0 (nL hL rfl) (nL hL rfl)) (sub_re (SubT.cons rfl SubT.nil) (SubO.cons rfl (SubO.cons rfl (SubO.cons rfl SubO.nil))) rfl rfl (LOs hL rfl))))) K
    · rw [hbl] at h1 ⊢
      refine awps_callP (avs := [_, _]) false rfl rfl rfl (by decide) en_slices_DeleteFunc_api_Kept_api_Kept rfl rfl (DeleteFunc_nm_ok s n l (by omega) cap h1 h2 (fun b => !((nmB s n) b.f)) (fun b hb => Some1_nm_ok s n b (hw b hb))) rfl (passO (.cons rfl trivial rfl (.cons rfl trivial rfl (.cons rfl trivial rfl (.cons rfl trivial rfl .nil))))) (by rintro r O' ⟨A', _, _, _, rfl⟩; exact frB rfl) (by rintro h; cases h) ?_
      rintro r O' ⟨A', hA1, hA2, rfl, rfl⟩
      rw [filter_nk] at hA2 ⊢
      exact awps_sub (Sub.trans (sub_close (l := 0) (cap := cap) (n := (l.filter (fun k => (nmB s n) k.f)).length) (kpDs (l.filter (fun k => (nmB s n) k.f))) rfl (nL hL rfl) ⟨_, arr_split hA2⟩ hfl.symm hA1.symm) (sub_re (SubT.cons (lk_eq rfl (by simp [AV.rp, clV])) SubT.nil) (SubO.cons rfl (SubO.cons rfl (SubO.cons rfl SubO.nil))) rfl rfl (LOs hL rfl))) K
  refine awps_stp0 rfl rfl (by decide) (stp_move (.inr rfl) rfl) ?_; refine awps_sub (sub_freeze (l := 0) rfl (by decide) (nL hL rfl) rfl rfl) ?_; refine awps_stp0 rfl rfl (by decide) (stp_move (.inr rfl) rfl) ?_; refine awps_nil ?_; refine thenQ_nil ?_; refine awp_ret ?_
  change retQ _ _ _ _ _ _ _
  refine retO (O' := [(90, .box [sv s]), (91, .box [iv n])]) (.inl rfl) (resAs_tmp rfl (resAs_tmp rfl resAs_nil)) (SubO.cons rfl (SubO.cons rfl SubO.nil)) ?_ ?_ (LO hL rfl) ?_
  · rfl
  · rfl
  exact ⟨.inr ⟨hlb, rfl⟩, rfl⟩
theorem Since_ok (l : List Kp) (hw : ∀ b ∈ l, b.wf) (t : Int) : PF 62 [.dat false 7 (kpDs l), iv t] (.tup [.dat false 7 (kpDs (someL l (sinceB t))), iv (someE l)]) := by
  refine AC_intro Tryz.func62 rfl Tryz.ntmps62 (Nat.le_of_ble_eq_true rfl) fun c hL hQ hDD => ?_; refine awp_seq ?_; refine awp_region ?_; refine awps_stp1 rfl rfl (by decide) (stp_box 3 rfl rfl rfl) rfl ?_; refine awps_stp0 rfl rfl (by decide) (stp_move (.inr rfl) rfl) ?_; refine awps_stp0 rfl rfl (by decide) (stp_move (.inr rfl) rfl) ?_; refine awps_nil ?_; refine thenQ_nil ?_
  refine awp_seq ?_; refine awp_region ?_; refine awps_stp0 rfl rfl (by decide) (stp_move (.inl rfl) rfl) ?_; refine awps_stp0 rfl rfl (by decide) (stp_makeFunc (vs := [_]) rfl rfl) ?_; refine awps_sub (sub_rename 3 90 (noL hL _) (noL hL _)) ?_; refine awps_callP (avs := [_, _]) false rfl rfl rfl (by decide) en_facts_some rfl rfl (Some_si_ok t l hw) (rfl) (passO (.cons rfl trivial rfl .nil)) (by rintro r O' ⟨_, rfl⟩; exact frB rfl) (by rintro h; cases h) ?_
  rintro r O' ⟨rfl, rfl⟩
  refine awps_stp0 rfl rfl (by decide) (stp_extract rfl rfl rfl) ?_; refine awps_stp0 rfl rfl (by decide) (stp_extract rfl rfl rfl) ?_; refine awps_stp0 rfl rfl (by decide) (stp_move (.inr rfl) rfl) ?_; refine awps_stp0 rfl rfl (by decide) (stp_move (.inr rfl) rfl) ?_; refine awps_nil ?_; refine thenQ_nil ?_; refine awp_ret ?_
  -- leaf 
  refine ret0 (noL hL) (.inl rfl) (resAs_tmp rfl (resAs_tmp rfl (resAs_nil))) ?_ ?_
  · rfl
  exact ⟨rfl, rfl⟩
theorem Named_ok (l : List Kp) (hw : ∀ b ∈ l, b.wf) (s : ByteArray) (n : Int) : PF 60 [.dat false 7 (kpDs l), sv s, iv n] (.tup [.dat false 7 (kpDs (someL l (nmB s n))), iv (someE l)]) := by
  refine AC_intro Tryz.func60 rfl Tryz.ntmps60 (Nat.le_of_ble_eq_true rfl) fun c hL hQ hDD => ?_; refine awp_seq ?_; refine awp_region ?_; refine awps_stp1 rfl rfl (by decide) (stp_box 4 rfl rfl rfl) rfl ?_; refine awps_stp1 rfl rfl (by decide) (stp_box 5 rfl rfl rfl) rfl ?_; refine awps_stp0 rfl rfl (by decide) (stp_move (.inr rfl) rfl) ?_
  refine awps_stp0 rfl rfl (by decide) (stp_move (.inr rfl) rfl) ?_; refine awps_nil ?_; refine thenQ_nil ?_; refine awp_seq ?_; refine awp_region ?_; refine awps_stp0 rfl rfl (by decide) (stp_move (.inl rfl) rfl) ?_; refine awps_stp0 rfl rfl (by decide) (stp_makeFunc (vs := [_, _]) rfl rfl) ?_; refine awps_sub (sub_rename 4 90 (noL hL _) (noL hL _)) ?_
  refine awps_sub (sub_rename 5 91 (noL hL _) (noL hL _)) ?_; refine awps_callP (avs := [_, _]) false rfl rfl rfl (by decide) en_facts_some rfl rfl (Some_nm_ok s n l hw) (rfl) (passO (.cons rfl trivial rfl (.cons rfl trivial rfl .nil))) (by rintro r O' ⟨_, rfl⟩; exact frB rfl) (by rintro h; cases h) ?_
  rintro r O' ⟨rfl, rfl⟩
  refine awps_stp0 rfl rfl (by decide) (stp_extract rfl rfl rfl) ?_; refine awps_stp0 rfl rfl (by decide) (stp_extract rfl rfl rfl) ?_; refine awps_stp0 rfl rfl (by decide) (stp_move (.inr rfl) rfl) ?_; refine awps_stp0 rfl rfl (by decide) (stp_move (.inr rfl) rfl) ?_; refine awps_nil ?_; refine thenQ_nil ?_; refine awp_ret ?_
  -- leaf 
  refine ret0 (noL hL) (.inl rfl) (resAs_tmp rfl (resAs_tmp rfl (resAs_nil))) ?_ ?_
  · rfl
  exact ⟨rfl, rfl⟩
end Go.Proofs.YtdecgkhdbfgldaaGreat

namespace Go.Proofs
open Go.Shelf
def Tryz.srtF_ren : Go.Shelf.Ren := ⟨fun | 6 => 120 | 15 => 182 | 14 => 181 | 28 => 233 | 29 => 234 | 20 => 225 | 21 => 226 | 22 => 227 | 23 => 228 | 24 => 229 | 25 => 230 | 26 => 231 | 27 => 232 | 46 => 262 | 47 => 263 | 48 => 264 | 49 => 265 | 50 => 266 | 57 => 285 | n => n, fun | 22 => 70 | 24 => 86 | 25 => 147 | 3 => 3 | 39 => 159 | 0 => 0 | 53 => 235 | 55 => 237 | 4 => 4 | 46 => 229 | 45 => 228 | 50 => 127 | 5 => 5 | 9 => 9 | 66 => 256 | 70 => 168 | 76 => 272 | 77 => 273 | n => n, fun | n => n⟩
theorem Tryz.srtF : Go.Proofs.SlLaysF0.n6 Tryz.prog Tryz.srtF_ren := {
  mixed := by kernel_rfl
  f6 := ⟨Tryz.f120.name, by decide, Tryz.func120.trans (congrArg some (by kernel_rfl))⟩
  f14 := ⟨Tryz.f181.name, by decide, Tryz.func181.trans (congrArg some (by kernel_rfl))⟩
  f15 := Tryz.func182.trans (congrArg some (by kernel_rfl))
  f20 := ⟨Tryz.f225.name, by decide, Tryz.func225.trans (congrArg some (by kernel_rfl))⟩
  f21 := ⟨Tryz.f226.name, by decide, Tryz.func226.trans (congrArg some (by kernel_rfl))⟩
  f22 := ⟨Tryz.f227.name, by decide, Tryz.func227.trans (congrArg some (by kernel_rfl))⟩
  f23 := ⟨Tryz.f228.name, by decide, Tryz.func228.trans (congrArg some (by kernel_rfl))⟩
  f24 := ⟨Tryz.f229.name, by decide, Tryz.func229.trans (congrArg some (by kernel_rfl))⟩
  f25 := ⟨Tryz.f230.name, by decide, Tryz.func230.trans (congrArg some (by kernel_rfl))⟩
  f26 := ⟨Tryz.f231.name, by decide, Tryz.func231.trans (congrArg some (by kernel_rfl))⟩
  f27 := ⟨Tryz.f232.name, by decide, Tryz.func232.trans (congrArg some (by kernel_rfl))⟩
  f28 := Tryz.func233.trans (congrArg some (by kernel_rfl))
  f29 := Tryz.func234.trans (congrArg some (by kernel_rfl))
  f46 := ⟨Tryz.f262.name, by decide, Tryz.func262.trans (congrArg some (by kernel_rfl))⟩
  f47 := Tryz.func263.trans (congrArg some (by kernel_rfl))
  f48 := Tryz.func264.trans (congrArg some (by kernel_rfl))
  f49 := ⟨Tryz.f265.name, by decide, Tryz.func265.trans (congrArg some (by kernel_rfl))⟩
  f50 := ⟨Tryz.f266.name, by decide, Tryz.func266.trans (congrArg some (by kernel_rfl))⟩
  f57 := ⟨Tryz.f285.name, by decide, Tryz.func285.trans (congrArg some (by kernel_rfl))⟩
  t0 := Tryz.underlying0
  a0 := Tryz.isAgg0
  z0 := Tryz.sizeOf0
  v0 := Tryz.zeroValue0
  t3 := Tryz.underlying3
  a3 := Tryz.isAgg3
  z3 := Tryz.sizeOf3
  v3 := Tryz.zeroValue3
  t4 := Tryz.underlying4
  a4 := Tryz.isAgg4
  z4 := Tryz.sizeOf4
  v4 := Tryz.zeroValue4
  t5 := Tryz.underlying5
  a5 := Tryz.isAgg5
  z5 := Tryz.sizeOf5
  v5 := Tryz.zeroValue5
  t9 := Tryz.underlying9
  a9 := Tryz.isAgg9
  z9 := Tryz.sizeOf9
  v9 := Tryz.zeroValue9
  t22 := Tryz.underlying70
  a22 := Tryz.isAgg70
  z22 := Tryz.sizeOf70
  v22 := Tryz.zeroValue70
  t25 := Tryz.underlying147
  a25 := Tryz.isAgg147
  z25 := Tryz.sizeOf147
  v25 := Tryz.zeroValue147
  t39 := Tryz.underlying159
  a39 := Tryz.isAgg159
  z39 := Tryz.sizeOf159
  v39 := Tryz.zeroValue159
  t45 := Tryz.underlying228
  a45 := Tryz.isAgg228
  z45 := Tryz.sizeOf228
  v45 := Tryz.zeroValue228
  t46 := Tryz.underlying229
  a46 := Tryz.isAgg229
  z46 := Tryz.sizeOf229
  v46 := Tryz.zeroValue229
  t50 := Tryz.underlying127
  a50 := Tryz.isAgg127
  z50 := Tryz.sizeOf127
  v50 := Tryz.zeroValue127
  t53 := Tryz.underlying235
  a53 := Tryz.isAgg235
  z53 := Tryz.sizeOf235
  v53 := Tryz.zeroValue235
  t55 := Tryz.underlying237
  a55 := Tryz.isAgg237
  z55 := Tryz.sizeOf237
  v55 := Tryz.zeroValue237
  t66 := Tryz.underlying256
  a66 := Tryz.isAgg256
  z66 := Tryz.sizeOf256
  v66 := Tryz.zeroValue256
  t70 := Tryz.underlying168
  a70 := Tryz.isAgg168
  z70 := Tryz.sizeOf168
  v70 := Tryz.zeroValue168
  t76 := Tryz.underlying272
  a76 := Tryz.isAgg272
  z76 := Tryz.sizeOf272
  v76 := Tryz.zeroValue272
  t77 := Tryz.underlying273
  a77 := Tryz.isAgg273
  z77 := Tryz.sizeOf273
  v77 := Tryz.zeroValue273 }
end Go.Proofs

set_option linter.unusedVariables false
set_option linter.unusedSimpArgs false
set_option maxRecDepth 8000
namespace Go.Proofs.YtdecgkhdbfgldaaGreat
open Go
def sortedL (l : List Kp) : List Ft := if listB l = true then srtF (l.map Kp.f) else []
def sortedE (l : List Kp) : Int := if listB l = true then 0 else 1
theorem factsSorted_ok (l : List Kp) (hw : ∀ k ∈ l, k.wf) : PF 46 [.dat false 7 (kpDs l)] (.tup [.dat true 6 (ftDs (sortedL l)), iv (sortedE l)]) := by
  have hlen := kpDs_length l
  refine AC_leP (Post := fun r O => ((listB l = false ∧ r = .tup [.imm (.slice none 0 0), iv 1]) ∨ (listB l = true ∧ r = .tup [.dat true 6 (ftDs (srtF (l.map Kp.f))), iv 0])) ∧ O = []) ?_ (fun r O' h => by
    obtain ⟨⟨h1, rfl⟩ | ⟨h1, rfl⟩, rfl⟩ := h
    · exact ⟨_, .tup (.cons (.nil (f := true) (k := 6)) (.cons .refl .nil)), by rw [sortedL, sortedE, if_neg (by simp [h1]), if_neg (by simp [h1])]; rfl, rfl⟩
    · exact ⟨_, .refl, by rw [sortedL, sortedE, if_pos h1, if_pos h1], rfl⟩)
  refine AC_intro Tryz.func46 rfl Tryz.ntmps46 (Nat.le_of_ble_eq_true rfl) fun c hL hQ hDD => ?_; refine awp_seq ?_; refine awp_region ?_; refine awps_stp0 rfl rfl (by decide) (stp_move (.inr rfl) rfl) ?_; refine awps_stp0 rfl rfl (by decide) (stp_move (.inr rfl) rfl) ?_; refine awps_nil ?_; refine thenQ_nil ?_; refine awp_seq ?_; refine awp_seq ?_; refine awp_region ?_
  refine awps_stp0 rfl rfl (by decide) (stp_move (.inl rfl) rfl) ?_; refine awps_call (avs := [_]) true rfl rfl rfl (by decide) en_facts_List rfl rfl (List_ok l hw) rfl rfl ?_; refine awps_stp0 rfl rfl (by decide) (stp_not rfl rfl) ?_; refine awps_nil ?_; refine thenQ_nil ?_; refine awp_cond rfl (fun c0 => ?_) (fun c0 => ?_)
  · try simp only [↓cqA, cqB] at c0
    refine awp_seq ?_; refine awp_region ?_; refine awps_stp0 rfl rfl (by decide) (stp_move (.inr rfl) rfl) ?_; refine awps_stp0 rfl rfl (by decide) (stp_move (.inr rfl) rfl) ?_; refine awps_nil ?_; refine thenQ_nil ?_; refine awp_ret ?_; refine thenQ_ret (?_)
    -- leaf 0T
    refine ret0 (noL hL) (.inl rfl) (resAs_tmp rfl (resAs_tmp rfl (resAs_nil))) ?_ ?_
    · rfl
    exact ⟨.inl ⟨by simp_all, rfl⟩, rfl⟩
  try simp only [↓cqA, cqB] at c0
  have hlb : listB l = true := by simp_all
  obtain ⟨hl3, hlm⟩ := listB_may hlb
  have hmay : ∀ k ∈ l, mayT k.f.t = true := fun k hk => factB_may (hlm k hk)
  refine awp_skip ?_; refine thenQ_nil ?_; refine awp_seq ?_; refine awp_region ?_; refine awps_stp0 rfl rfl (by decide) (stp_move (.inr rfl) rfl) ?_; refine awps_nil ?_; refine thenQ_nil ?_; refine awp_seq ?_; refine awp_seq ?_; refine awp_region ?_; refine awps_stp0 rfl rfl (by decide) (stp_move (.inl rfl) rfl) ?_; refine awps_u rfl rfl (by decide) (stpU_call (avs := [_]) true rfl en_facts_Owns rfl rfl (AC_rnE 2 77 (Owns_ok l hl3 hw hmay)) (fun _ => rfl) rfl) rfl ?_; refine awps_sub (sub_freeze (l := 77) rfl (by decide) (noL hL _) rfl rfl) ?_
  refine awps_stp0 rfl rfl (by decide) (stp_len_dat rfl sl_S_api_Kept rfl) ?_; refine awps_stp0 rfl rfl (by decide) (stp_move (.inl rfl) rfl) ?_; refine awps_nil ?_; refine thenQ_nil ?_; refine awp_block ?_; refine awp_while (l.length) (fun k => k ≤ l.length) (fun k => ⟨[(4, .row 4), (11, .dat true 7 (kpDs l)), (12, iv (kpDs l).length), (13, iv (k : Int))], [(4, .rowd 86 6 true (ftDs ((l.take k).map Kp.f)))]⟩) (by omega) ?_ (fun k hk hp => ?_)
  · exact Sub.trans (sub_nil_row (t := 4) (l := 4) 86 6 true rfl rfl) (sub_re (SubT.cons (lk_eq rfl (by first | rfl | simp)) (SubT.cons (lk_eq rfl (by first | rfl | simp)) (SubT.cons (lk_eq rfl (by first | rfl | simp)) (SubT.cons (lk_eq rfl (by first | rfl | simp)) (SubT.nil))))) (SubO.cons (ok_eq rfl (by rfl)) (SubO.nil)) rfl rfl (noL' (noL hL) _))
  have hl2 : (ftDs ((l.take k).map Kp.f)).length ≤ l.length := by rw [ftDs_length, List.length_map, List.length_take]; omega
  refine awp_seq ?_; refine awp_region ?_; refine awps_stp0 rfl rfl (by decide) (stp_binI rfl rfl rfl rfl) ?_; refine awps_nil ?_; refine thenQ_nil ?_; refine awp_seq ?_; refine awp_cond rfl (fun c1 => ?_) (fun c1 => ?_)
  · try simp only [↓cqA, cqB] at c1
    obtain ⟨u, hu⟩ := get_of_lt (l := l) (k := k) (by omega)
    refine awp_skip ?_; refine thenQ_nil ?_; refine awp_seq ?_; refine awp_block ?_; refine awp_seq ?_; refine awp_region ?_; refine awps_stp0 rfl rfl (by decide) (stp_indexAddr rfl sl_S_api_Kept rfl rfl (by omega) (kpDs_get hu)) ?_; refine awps_stp0 rfl rfl (by decide) (stp_load_elpa rfl tf_api_Kept rfl rfl) ?_
    refine awps_stp1 rfl rfl (by decide) (stp_alloc 6 rfl zv_api_Kept rfl) rfl ?_; refine awps_store rfl rfl rfl tf_api_Kept rfl rfl rfl rfl rfl rfl rfl rfl rfl ?_; refine awps_nil ?_; refine thenQ_nil ?_; refine awp_region ?_; refine awps_stp0 rfl rfl (by decide) (stp_move (.inl rfl) rfl) ?_; refine awps_stp0 rfl rfl (by decide) (stp_fieldAddr rfl fo_api_Kept_1 rfl) ?_; refine awps_stp0 rfl rfl (by decide) (stp_load rfl tf_api_Fact rfl rfl rfl rfl rfl) ?_
    refine awps_stp1 rfl rfl (by decide) (stp_buildSlice 20 rfl sl_S_api_Fact zv_api_Fact rfl rfl (by decide) (by decide) (by decide) rfl rfl rfl) rfl ?_; refine awps_u rfl rfl (by decide) (stpU_append1 21 ta_S_api_Fact rfl rfl rfl rfl rfl rfl rfl rfl (noL hL _) (by omega) rfl) rfl ?_
    refine awps_stp0 rfl rfl (by decide) (stp_move (.inr rfl) rfl) ?_; refine awps_nil ?_; refine inQ_nil ?_; refine thenQ_nil ?_; refine awp_region ?_; refine awps_stp0 rfl rfl (by decide) (stp_add rfl rfl rfl (by omega)) ?_; refine awps_stp0 rfl rfl (by decide) (stp_move (.inl rfl) rfl) ?_; refine awps_nil ?_; refine thenQ_nil ?_; refine ⟨?_, ?_, ?_⟩
    · skip
      omega
    · skip
      omega
    exact Sub.trans (sub_rename 21 4 (noL hL _) (noL hL _)) (sub_re (SubT.cons (lk_eq rfl (by first | rfl | simp)) (SubT.cons (lk_eq rfl (by first | rfl | simp)) (SubT.cons (lk_eq rfl (by first | rfl | simp)) (SubT.cons (lk_eq rfl (by first | rfl | simp)) (SubT.nil))))) (SubO.cons (ok_eq rfl (by rw [take_snoc hu, List.map_append, ftDs, ftDs, List.map_append]; rfl)) (SubO.nil)) rfl rfl (noL' (noL hL) _))
  try simp only [↓cqA, cqB] at c1
  refine awp_exit ?_; refine thenQ_exit (thenQ_exit (inQ_hit ?_)); refine thenQ_nil ?_; refine awp_seq ?_; refine awp_region ?_; refine awps_stp0 rfl rfl (by decide) (stp_move (.inl rfl) rfl) ?_
  refine awps_sort Tryz.srtF (k := 6) (by decide) tf_api_Fact (sf := 120) rfl en_facts_Compare en_slices_SortFunc_api_Fact_api_Fact (toD := ftD) (es := l.map Kp.f) (cf := cmpF) rfl rfl (by decide) rfl rfl rfl (by rw [List.take_of_length_le (by omega)]; rfl) (by rw [List.length_map]; omega) (fun x hx y hy => ?_) (fun x _ => by rw [TP.ft.self]; decide) (fun x _ y _ z _ h1 h2 => TP.ft.lt1 h1 (by omega)) (fun x _ y _ z _ h1 h2 h3 => ?_) (fun es' hp hs => ?_)
  · obtain ⟨kx, hkx, rfl⟩ := List.mem_map.1 hx
    obtain ⟨ky, hky, rfl⟩ := List.mem_map.1 hy
    exact factsCompare_ok _ _ (mayT_dle (hmay kx hkx)).1 (hw kx hkx).2 (hw ky hky).2
  · have h4 := TP.ft.anti x y
    have h5 := TP.ft.anti y z
    have h6 := TP.ft.anti x z
    have h7 := TP.ft.tr z y x (by omega) (by omega)
    omega
  obtain rfl := srtF_uniq (l := l.map Kp.f) (fun a ha => by obtain ⟨kx, hkx, rfl⟩ := List.mem_map.1 ha; exact (mayT_dle (hmay kx hkx)).1) hp hs
  refine awps_nil ?_; refine thenQ_nil ?_; refine awp_seq ?_; refine awp_sub (sub_freeze (l := 4) rfl (by decide) (noL hL _) rfl rfl) ?_; refine awp_region ?_; refine awps_stp0 rfl rfl (by decide) (stp_move (.inl rfl) rfl) ?_; refine awps_stp0 rfl rfl (by decide) (stp_move (.inr rfl) rfl) ?_; refine awps_stp0 rfl rfl (by decide) (stp_move (.inr rfl) rfl) ?_; refine awps_nil ?_; refine thenQ_nil ?_; refine awp_ret ?_
  -- leaf 0F1F
  refine ret0 (noL hL) (.inl rfl) (resAs_tmp rfl (resAs_tmp rfl (resAs_nil))) ?_ ?_
  · rfl
  exact ⟨.inr ⟨hlb, rfl⟩, rfl⟩
end Go.Proofs.YtdecgkhdbfgldaaGreat

set_option linter.unusedVariables false
set_option linter.unusedSimpArgs false
set_option maxRecDepth 8000
namespace Go.Proofs.YtdecgkhdbfgldaaGreat
open Go
theorem rSince7_ok (l : List Kp) (hl : l.length ≤ 1000000) (hd : ∀ b ∈ l, dle 5 b.f.t) (hw : ∀ b ∈ l, b.wf) (t : Int) : PF 63 [.dat false 7 (kpDs l), iv t] (.dat true 7 (kpDs (l.filter fun k => sinceB t k.f))) := by
  have hlen := kpDs_length l
  refine AC_intro Tryz.func63 rfl Tryz.ntmps63 (Nat.le_of_ble_eq_true rfl) fun c hL hQ hDD => ?_; refine awp_seq ?_; refine awp_region ?_; refine awps_stp0 rfl rfl (by decide) (stp_move (.inr rfl) rfl) ?_; refine awps_nil ?_; refine thenQ_nil ?_; refine awp_seq ?_; refine awp_region ?_; refine awps_stp0 rfl rfl (by decide) (stp_move (.inr rfl) rfl) ?_; refine awps_nil ?_; refine thenQ_nil ?_; refine awp_seq ?_; refine awp_seq ?_; refine awp_region ?_; refine awps_stp0 rfl rfl (by decide) (stp_move (.inr rfl) rfl) ?_; refine awps_nil ?_; refine thenQ_nil ?_; refine awp_block ?_
  refine awp_while (l.length) (fun k => k ≤ l.length) (fun k => ⟨[(0, .dat false 7 (kpDs l)), (1, iv t), (5, .row 5), (6, iv (k : Int))], [(5, .rowd 92 7 true (kpDs ((l.take k).filter fun k => sinceB t k.f)))]⟩) (by omega) ?_ (fun k hk hp => ?_)
  · exact Sub.trans (sub_nil_row (t := 5) (l := 5) 92 7 true rfl rfl) (sub_re (SubT.cons (lk_eq rfl (by first | rfl | simp)) (SubT.cons (lk_eq rfl (by first | rfl | simp)) (SubT.cons (lk_eq rfl (by first | rfl | simp)) (SubT.cons (lk_eq rfl (by first | rfl | simp)) (SubT.nil))))) (SubO.cons (ok_eq rfl (by rfl)) (SubO.nil)) rfl rfl (noL' (noL hL) _))
  have hl2 : (kpDs ((l.take k).filter fun k => sinceB t k.f)).length ≤ l.length := by rw [kpDs_length]; have := filter_take_le (fun k : Kp => sinceB t k.f) l k; omega
  refine awp_seq ?_; refine awp_seq ?_; refine awp_region ?_; refine awps_stp0 rfl rfl (by decide) (stp_move (.inl rfl) rfl) ?_; refine awps_stp0 rfl rfl (by decide) (stp_move (.inl rfl) rfl) ?_; refine awps_stp0 rfl rfl (by decide) (stp_len_dat rfl sl_S_api_Kept rfl) ?_; refine awps_stp0 rfl rfl (by decide) (stp_binI rfl rfl rfl rfl) ?_; refine awps_nil ?_; refine thenQ_nil ?_; refine awp_cond rfl (fun c0 => ?_) (fun c0 => ?_)
  · try simp only [↓cqA, cqB] at c0
    obtain ⟨u, hu⟩ := get_of_lt (l := l) (k := k) (by omega)
    have hum := List.mem_of_getElem? hu
    have hfs := filter_snoc (fun k : Kp => sinceB t k.f) hu
    refine awp_skip ?_; refine thenQ_nil ?_; refine awp_seq ?_; refine awp_block ?_; refine awp_seq ?_; refine awp_region ?_; refine awps_stp0 rfl rfl (by decide) (stp_move (.inl rfl) rfl) ?_; refine awps_stp0 rfl rfl (by decide) (stp_move (.inl rfl) rfl) ?_; refine awps_stp0 rfl rfl (by decide) (stp_indexAddr rfl sl_S_api_Kept rfl rfl (by omega) (kpDs_get hu)) ?_; refine awps_stp0 rfl rfl (by decide) (stp_fieldAddr_elp rfl fo_api_Kept_1 rfl) ?_; refine awps_stp0 rfl rfl (by decide) (stp_fieldAddr_elp rfl fo_api_Fact_1 rfl) ?_
    refine awps_stp0 rfl rfl (by decide) (stp_fieldAddr_elp rfl fo_api_Span_0 rfl) ?_; refine awps_stp0 rfl rfl (by decide) (stp_load_elp1 rfl tf_int rfl) ?_; refine awps_stp0 rfl rfl (by decide) (stp_move (.inl rfl) rfl) ?_; refine awps_stp0 rfl rfl (by decide) (stp_binI rfl rfl rfl rfl) ?_; refine awps_nil ?_; refine thenQ_nil ?_; refine awp_cond rfl (fun c1 => ?_) (fun c1 => ?_)
    · try simp only [↓cqA, cqB] at c1
      have hfe : kpDs ((l.take (k + 1)).filter fun k => sinceB t k.f) = kpDs ((l.take k).filter fun k => sinceB t k.f) ++ [kpD u] := by rw [hfs, if_pos (show sinceB t u.f = true from decide_eq_true (by omega)), kpDs, kpDs, List.map_append]; rfl
      refine awp_region ?_; refine awps_stp0 rfl rfl (by decide) (stp_move (.inl rfl) rfl) ?_; refine awps_stp0 rfl rfl (by decide) (stp_move (.inl rfl) rfl) ?_; refine awps_stp0 rfl rfl (by decide) (stp_move (.inl rfl) rfl) ?_; refine awps_stp0 rfl rfl (by decide) (stp_indexAddr rfl sl_S_api_Kept rfl rfl (by omega) (kpDs_get hu)) ?_; refine awps_stp0 rfl rfl (by decide) (stp_load_elpa rfl tf_api_Kept rfl rfl) ?_
      refine awps_call (avs := [_]) true rfl rfl rfl (by decide) en_almagestref0_CopyKept rfl rfl (CopyKept_ok 5 u (hd u hum) (hw u hum)) rfl rfl ?_; refine awps_stp1 rfl rfl (by decide) (stp_buildSlice 28 rfl sl_S_api_Kept zv_api_Kept rfl rfl (by decide) (by decide) (by decide) rfl rfl rfl) rfl ?_; refine awps_u rfl rfl (by decide) (stpU_append1 29 ta_S_api_Kept rfl rfl rfl rfl rfl rfl rfl rfl (noL hL _) (by omega) rfl) rfl ?_
      refine awps_sub (sub_rename 29 5 (noL hL _) (noL hL _)) ?_; refine awps_stp0 rfl rfl (by decide) (stp_move (.inr rfl) rfl) ?_; refine awps_nil ?_; refine inQ_nil ?_; refine thenQ_nil ?_; refine awp_region ?_; refine awps_stp0 rfl rfl (by decide) (stp_move (.inl rfl) rfl) ?_; refine awps_stp0 rfl rfl (by decide) (stp_add rfl rfl rfl (by omega)) ?_; refine awps_stp0 rfl rfl (by decide) (stp_move (.inr rfl) rfl) ?_; refine awps_nil ?_; refine thenQ_nil ?_; refine ⟨?_, ?_, ?_⟩
      · skip
        omega
      · skip
        omega
      exact sub_re (SubT.cons (lk_eq rfl (by first | rfl | simp)) (SubT.cons (lk_eq rfl (by first | rfl | simp)) (SubT.cons (lk_eq rfl (by first | rfl | simp)) (SubT.cons (lk_eq rfl (by first | rfl | simp)) (SubT.nil))))) (SubO.cons (ok_eq rfl (by rw [hfe]; try rfl)) (SubO.nil)) rfl rfl (noL' (noL hL) _)
    try simp only [↓cqA, cqB] at c1
    have hfe : kpDs ((l.take (k + 1)).filter fun k => sinceB t k.f) = kpDs ((l.take k).filter fun k => sinceB t k.f) := by rw [hfs, if_neg (show ¬ sinceB t u.f = true by simp only [sinceB, decide_eq_true_eq]; omega), List.append_nil]
    refine awp_skip ?_; refine inQ_nil ?_; refine thenQ_nil ?_; refine awp_region ?_; refine awps_stp0 rfl rfl (by decide) (stp_move (.inl rfl) rfl) ?_; refine awps_stp0 rfl rfl (by decide) (stp_add rfl rfl rfl (by omega)) ?_; refine awps_stp0 rfl rfl (by decide) (stp_move (.inr rfl) rfl) ?_; refine awps_nil ?_; refine thenQ_nil ?_; refine ⟨?_, ?_, ?_⟩
    · skip
      omega
    · skip
      omega
    exact sub_re (SubT.cons (lk_eq rfl (by first | rfl | simp)) (SubT.cons (lk_eq rfl (by first | rfl | simp)) (SubT.cons (lk_eq rfl (by first | rfl | simp)) (SubT.cons (lk_eq rfl (by first | rfl | simp)) (SubT.nil))))) (SubO.cons (ok_eq rfl (by rw [hfe]; try rfl)) (SubO.nil)) rfl rfl (noL' (noL hL) _)
  try simp only [↓cqA, cqB] at c0
  refine awp_exit ?_; refine thenQ_exit (thenQ_exit (inQ_hit ?_)); refine thenQ_nil ?_; refine awp_seq ?_; refine awp_sub (sub_freeze (l := 5) rfl (by decide) (noL hL _) rfl rfl) ?_; refine awp_region ?_; refine awps_stp0 rfl rfl (by decide) (stp_move (.inl rfl) rfl) ?_; refine awps_stp0 rfl rfl (by decide) (stp_move (.inr rfl) rfl) ?_; refine awps_nil ?_; refine thenQ_nil ?_; refine awp_ret ?_
  -- leaf 0F
  refine ret0 (noL hL) (.inl rfl) (resAs_tmp rfl (resAs_nil)) ?_ ?_
  · rfl
  exact ⟨by rw [List.take_of_length_le (by omega)]; rfl, rfl⟩
theorem rNamed7_ok (l : List Kp) (hl : l.length ≤ 1000000) (hd : ∀ b ∈ l, dle 5 b.f.t) (hw : ∀ b ∈ l, b.wf) (s : ByteArray) (n : Int) : PF 61 [.dat false 7 (kpDs l), sv s, iv n] (.dat true 7 (kpDs (l.filter fun k => nmB s n k.f))) := by
  have hlen := kpDs_length l
  refine AC_intro Tryz.func61 rfl Tryz.ntmps61 (Nat.le_of_ble_eq_true rfl) fun c hL hQ hDD => ?_; refine awp_seq ?_; refine awp_region ?_; refine awps_stp0 rfl rfl (by decide) (stp_move (.inr rfl) rfl) ?_; refine awps_nil ?_; refine thenQ_nil ?_; refine awp_seq ?_; refine awp_region ?_; refine awps_stp0 rfl rfl (by decide) (stp_move (.inr rfl) rfl) ?_; refine awps_nil ?_; refine thenQ_nil ?_; refine awp_seq ?_; refine awp_seq ?_; refine awp_region ?_; refine awps_stp0 rfl rfl (by decide) (stp_move (.inr rfl) rfl) ?_; refine awps_nil ?_; refine thenQ_nil ?_; refine awp_block ?_
  refine awp_while (l.length) (fun k => k ≤ l.length) (fun k => ⟨[(0, .dat false 7 (kpDs l)), (1, sv s), (2, iv n), (7, .row 7), (8, iv (k : Int))], [(7, .rowd 92 7 true (kpDs ((l.take k).filter fun k => nmB s n k.f)))]⟩) (by omega) ?_ (fun k hk hp => ?_)
  · exact Sub.trans (sub_nil_row (t := 7) (l := 7) 92 7 true rfl rfl) (sub_re (SubT.cons (lk_eq rfl (by first | rfl | simp)) (SubT.cons (lk_eq rfl (by first | rfl | simp)) (SubT.cons (lk_eq rfl (by first | rfl | simp)) (SubT.cons (lk_eq rfl (by first | rfl | simp)) (SubT.cons (lk_eq rfl (by first | rfl | simp)) (SubT.nil)))))) (SubO.cons (ok_eq rfl (by rfl)) (SubO.nil)) rfl rfl (noL' (noL hL) _))
  have hl2 : (kpDs ((l.take k).filter fun k => nmB s n k.f)).length ≤ l.length := by rw [kpDs_length]; have := filter_take_le (fun k : Kp => nmB s n k.f) l k; omega
  refine awp_seq ?_; refine awp_seq ?_; refine awp_region ?_; refine awps_stp0 rfl rfl (by decide) (stp_move (.inl rfl) rfl) ?_; refine awps_stp0 rfl rfl (by decide) (stp_move (.inl rfl) rfl) ?_; refine awps_stp0 rfl rfl (by decide) (stp_len_dat rfl sl_S_api_Kept rfl) ?_; refine awps_stp0 rfl rfl (by decide) (stp_binI rfl rfl rfl rfl) ?_; refine awps_nil ?_; refine thenQ_nil ?_; refine awp_cond rfl (fun c0 => ?_) (fun c0 => ?_)
  · try simp only [↓cqA, cqB] at c0
    obtain ⟨u, hu⟩ := get_of_lt (l := l) (k := k) (by omega)
    have hum := List.mem_of_getElem? hu
    have hfs := filter_snoc (fun k : Kp => nmB s n k.f) hu
    have hlu := tmDs_length u.f.t.args
    have hT : nmB s n u.f = true → kpDs ((l.take (k + 1)).filter fun k => nmB s n k.f) = kpDs ((l.take k).filter fun k => nmB s n k.f) ++ [kpD u] := fun h => by rw [hfs, if_pos h, kpDs, kpDs, List.map_append]; rfl
    have hF : nmB s n u.f = false → kpDs ((l.take (k + 1)).filter fun k => nmB s n k.f) = kpDs ((l.take k).filter fun k => nmB s n k.f) := fun h => by rw [hfs, if_neg (by simp [h]), List.append_nil]
    refine awp_skip ?_; refine thenQ_nil ?_; refine awp_seq ?_; refine awp_block ?_; refine awp_seq ?_; refine awp_region ?_; refine awps_stp0 rfl rfl (by decide) (stp_move (.inl rfl) rfl) ?_; refine awps_stp0 rfl rfl (by decide) (stp_move (.inl rfl) rfl) ?_; refine awps_stp0 rfl rfl (by decide) (stp_indexAddr rfl sl_S_api_Kept rfl rfl (by omega) (kpDs_get hu)) ?_; refine awps_stp0 rfl rfl (by decide) (stp_fieldAddr_elp rfl fo_api_Kept_1 rfl) ?_; refine awps_stp0 rfl rfl (by decide) (stp_fieldAddr_elp rfl fo_api_Fact_0 rfl) ?_
    refine awps_stp0 rfl rfl (by decide) (stp_fieldAddr_elp rfl fo_api_Term_1 rfl) ?_; refine awps_stp0 rfl rfl (by decide) (stp_load_elp1 rfl tf_string rfl) ?_; refine awps_stp0 rfl rfl (by decide) (stp_move (.inl rfl) rfl) ?_; refine awps_stp0 rfl rfl (by decide) (stp_binS rfl rfl rfl rfl) ?_; refine awps_stp0 rfl rfl (by decide) (stp_move (.inl rfl) rfl) ?_; refine awps_split 24 rfl (fun g24 => ?_) (fun g24 => ?_)
    · try simp only [↓cqA, cqB] at g24
      refine awps_g0 rfl rfl rfl (by decide) rfl (by decide) (stp_move (.inl rfl) rfl) ?_; refine awps_g0 rfl rfl rfl (by decide) rfl (by decide) (stp_move (.inl rfl) rfl) ?_; refine awps_g0 rfl rfl rfl (by decide) rfl (by decide) (stp_indexAddr rfl sl_S_api_Kept rfl rfl (by omega) (kpDs_get hu)) ?_; refine awps_g0 rfl rfl rfl (by decide) rfl (by decide) (stp_fieldAddr_elp rfl fo_api_Kept_1 rfl) ?_; refine awps_g0 rfl rfl rfl (by decide) rfl (by decide) (stp_fieldAddr_elp rfl fo_api_Fact_0 rfl) ?_
      refine awps_g0 rfl rfl rfl (by decide) rfl (by decide) (stp_fieldAddr_elp rfl fo_api_Term_3 rfl) ?_; refine awps_g0 rfl rfl rfl (by decide) rfl (by decide) (stp_load_elp1 rfl tf_S_api_Term rfl) ?_; refine awps_g0 rfl rfl rfl (by decide) rfl (by decide) (stp_len_dat rfl sl_S_api_Term rfl) ?_
      refine awps_g0 rfl rfl rfl (by decide) rfl (by decide) (stp_move (.inl rfl) rfl) ?_; refine awps_g0 rfl rfl rfl (by decide) rfl (by decide) (stp_binI rfl rfl rfl rfl) ?_; refine awps_stp0 rfl rfl (by decide) (stp_pick rfl rfl rfl) ?_; refine awps_nil ?_; refine thenQ_nil ?_; refine awp_cond rfl (fun c1 => ?_) (fun c1 => ?_)
      · try simp only [↓cqA, cqB] at c1
        refine awp_region ?_; refine awps_stp0 rfl rfl (by decide) (stp_move (.inl rfl) rfl) ?_; refine awps_stp0 rfl rfl (by decide) (stp_move (.inl rfl) rfl) ?_; refine awps_stp0 rfl rfl (by decide) (stp_move (.inl rfl) rfl) ?_; refine awps_stp0 rfl rfl (by decide) (stp_indexAddr rfl sl_S_api_Kept rfl rfl (by omega) (kpDs_get hu)) ?_; refine awps_stp0 rfl rfl (by decide) (stp_load_elpa rfl tf_api_Kept rfl rfl) ?_
        refine awps_call (avs := [_]) true rfl rfl rfl (by decide) en_almagestref0_CopyKept rfl rfl (CopyKept_ok 5 u (hd u hum) (hw u hum)) rfl rfl ?_; refine awps_stp1 rfl rfl (by decide) (stp_buildSlice 42 rfl sl_S_api_Kept zv_api_Kept rfl rfl (by decide) (by decide) (by decide) rfl rfl rfl) rfl ?_; refine awps_u rfl rfl (by decide) (stpU_append1 43 ta_S_api_Kept rfl rfl rfl rfl rfl rfl rfl rfl (noL hL _) (by omega) rfl) rfl ?_
        refine awps_sub (sub_rename 43 7 (noL hL _) (noL hL _)) ?_; refine awps_stp0 rfl rfl (by decide) (stp_move (.inr rfl) rfl) ?_; refine awps_nil ?_; refine inQ_nil ?_; refine thenQ_nil ?_; refine awp_region ?_; refine awps_stp0 rfl rfl (by decide) (stp_move (.inl rfl) rfl) ?_; refine awps_stp0 rfl rfl (by decide) (stp_add rfl rfl rfl (by omega)) ?_; refine awps_stp0 rfl rfl (by decide) (stp_move (.inr rfl) rfl) ?_; refine awps_nil ?_; refine thenQ_nil ?_; refine ⟨?_, ?_, ?_⟩
        · skip
          omega
        · skip
          omega
        exact sub_re (SubT.cons (lk_eq rfl (by first | rfl | simp)) (SubT.cons (lk_eq rfl (by first | rfl | simp)) (SubT.cons (lk_eq rfl (by first | rfl | simp)) (SubT.cons (lk_eq rfl (by first | rfl | simp)) (SubT.cons (lk_eq rfl (by first | rfl | simp)) (SubT.nil)))))) (SubO.cons (ok_eq rfl (by first | (rw [hT (by simp only [nmB, Bool.and_eq_true, decide_eq_true_eq]; constructor <;> first | assumption | omega)]; rfl) | (rw [hF (by simp only [nmB, Bool.and_eq_false_iff, decide_eq_false_iff_not]; first | (left; assumption) | (right; omega))]))) (SubO.nil)) rfl rfl (noL' (noL hL) _)
      try simp only [↓cqA, cqB] at c1
      refine awp_skip ?_; refine inQ_nil ?_; refine thenQ_nil ?_; refine awp_region ?_; refine awps_stp0 rfl rfl (by decide) (stp_move (.inl rfl) rfl) ?_; refine awps_stp0 rfl rfl (by decide) (stp_add rfl rfl rfl (by omega)) ?_; refine awps_stp0 rfl rfl (by decide) (stp_move (.inr rfl) rfl) ?_; refine awps_nil ?_; refine thenQ_nil ?_; refine ⟨?_, ?_, ?_⟩
      · skip
        omega
      · skip
        omega
      exact sub_re (SubT.cons (lk_eq rfl (by first | rfl | simp)) (SubT.cons (lk_eq rfl (by first | rfl | simp)) (SubT.cons (lk_eq rfl (by first | rfl | simp)) (SubT.cons (lk_eq rfl (by first | rfl | simp)) (SubT.cons (lk_eq rfl (by first | rfl | simp)) (SubT.nil)))))) (SubO.cons (ok_eq rfl (by first | (rw [hT (by simp only [nmB, Bool.and_eq_true, decide_eq_true_eq]; constructor <;> first | assumption | omega)]; rfl) | (rw [hF (by simp only [nmB, Bool.and_eq_false_iff, decide_eq_false_iff_not]; first | (left; assumption) | (right; omega))]))) (SubO.nil)) rfl rfl (noL' (noL hL) _)
    try simp only [↓cqA, cqB] at g24
    refine awps_gs rfl rfl rfl rfl (by decide) rfl (by decide) ?_; refine awps_gs rfl rfl rfl rfl (by decide) rfl (by decide) ?_; refine awps_gs rfl rfl rfl rfl (by decide) rfl (by decide) ?_; refine awps_gs rfl rfl rfl rfl (by decide) rfl (by decide) ?_; refine awps_gs rfl rfl rfl rfl (by decide) rfl (by decide) ?_; refine awps_gs rfl rfl rfl rfl (by decide) rfl (by decide) ?_
    refine awps_gs rfl rfl rfl rfl (by decide) rfl (by decide) ?_; refine awps_gs rfl rfl rfl rfl (by decide) rfl (by decide) ?_; refine awps_gs rfl rfl rfl rfl (by decide) rfl (by decide) ?_; refine awps_gs rfl rfl rfl rfl (by decide) rfl (by decide) ?_; refine awps_stp0 rfl rfl (by decide) (stp_pick rfl rfl rfl) ?_; refine awps_nil ?_; refine thenQ_nil ?_; refine awp_condF rfl ?_
    refine awp_skip ?_; refine inQ_nil ?_; refine thenQ_nil ?_; refine awp_region ?_; refine awps_stp0 rfl rfl (by decide) (stp_move (.inl rfl) rfl) ?_; refine awps_stp0 rfl rfl (by decide) (stp_add rfl rfl rfl (by omega)) ?_; refine awps_stp0 rfl rfl (by decide) (stp_move (.inr rfl) rfl) ?_; refine awps_nil ?_; refine thenQ_nil ?_; refine ⟨?_, ?_, ?_⟩
    · skip
      omega
    · skip
      omega
    exact sub_re (SubT.cons (lk_eq rfl (by first | rfl | simp)) (SubT.cons (lk_eq rfl (by first | rfl | simp)) (SubT.cons (lk_eq rfl (by first | rfl | simp)) (SubT.cons (lk_eq rfl (by first | rfl | simp)) (SubT.cons (lk_eq rfl (by first | rfl | simp)) (SubT.nil)))))) (SubO.cons (ok_eq rfl (by first | (rw [hT (by simp only [nmB, Bool.and_eq_true, decide_eq_true_eq]; constructor <;> first | assumption | omega)]; rfl) | (rw [hF (by simp only [nmB, Bool.and_eq_false_iff, decide_eq_false_iff_not]; first | (left; assumption) | (right; omega))]))) (SubO.nil)) rfl rfl (noL' (noL hL) _)
  try simp only [↓cqA, cqB] at c0
  refine awp_exit ?_; refine thenQ_exit (thenQ_exit (inQ_hit ?_)); refine thenQ_nil ?_; refine awp_seq ?_; refine awp_sub (sub_freeze (l := 7) rfl (by decide) (noL hL _) rfl rfl) ?_; refine awp_region ?_; refine awps_stp0 rfl rfl (by decide) (stp_move (.inl rfl) rfl) ?_; refine awps_stp0 rfl rfl (by decide) (stp_move (.inr rfl) rfl) ?_; refine awps_nil ?_; refine thenQ_nil ?_; refine awp_ret ?_
  -- leaf 0F
  refine ret0 (noL hL) (.inl rfl) (resAs_tmp rfl (resAs_nil)) ?_ ?_
  · rfl
  exact ⟨by rw [List.take_of_length_le (by omega)]; rfl, rfl⟩
def mayFE (f : Ft) : Int := if factB f = true then 0 else 1
theorem factsMay_ok (f : Ft) (hf : f.wf) : PF 55 [ftA f] (iv (mayFE f)) := by
  refine AC_intro Tryz.func55 rfl Tryz.ntmps55 (Nat.le_of_ble_eq_true rfl) fun c hL hQ hDD => ?_; refine awp_seq ?_; refine awp_region ?_; refine awps_stp1 rfl rfl (by decide) (stp_box 1 rfl rfl rfl) rfl ?_; refine awps_stp0 rfl rfl (by decide) (stp_move (.inr rfl) rfl) ?_; refine awps_nil ?_; refine thenQ_nil ?_; refine awp_seq ?_; refine awp_seq ?_; refine awp_region ?_; refine awps_stp0 rfl rfl (by decide) (stp_load_all rfl tf_api_Fact rfl rfl rfl rfl) ?_
  refine awps_call (avs := [_]) true rfl rfl rfl (by decide) en_facts_Is rfl rfl (factsIs_ok f hf) rfl rfl ?_; refine awps_stp0 rfl rfl (by decide) (stp_not rfl rfl) ?_; refine awps_nil ?_; refine thenQ_nil ?_; refine awp_cond rfl (fun c0 => ?_) (fun c0 => ?_)
  · try simp only [↓cqA, cqB] at c0
    refine awp_seq ?_; refine awp_region ?_; refine awps_stp0 rfl rfl (by decide) (stp_move (.inr rfl) rfl) ?_; refine awps_nil ?_; refine thenQ_nil ?_; refine awp_ret ?_; refine thenQ_ret (?_)
    -- leaf 0T
    refine ret0 (noL hL) (.inl rfl) (resAs_tmp rfl (resAs_nil)) ?_ ?_
    · rfl
    refine ⟨int_w ?_, rfl⟩
    simp_all [mayFE]
  try simp only [↓cqA, cqB] at c0
  refine awp_skip ?_; refine thenQ_nil ?_; refine awp_seq ?_; refine awp_region ?_; refine awps_stp0 rfl rfl (by decide) (stp_move (.inr rfl) rfl) ?_; refine awps_nil ?_; refine thenQ_nil ?_; refine awp_ret ?_
  -- leaf 0F
  refine ret0 (noL hL) (.inl rfl) (resAs_tmp rfl (resAs_nil)) ?_ ?_
  · rfl
  refine ⟨int_w ?_, rfl⟩
  simp_all [mayFE]
theorem factsCheck_ok (l : List Kp) (hw : ∀ k ∈ l, k.wf) : PF 49 [.dat false 7 (kpDs l)] (iv (sortedE l)) := by
  refine AC_intro Tryz.func49 rfl Tryz.ntmps49 (Nat.le_of_ble_eq_true rfl) fun c hL hQ hDD => ?_; refine awp_seq ?_; refine awp_region ?_; refine awps_stp0 rfl rfl (by decide) (stp_move (.inr rfl) rfl) ?_; refine awps_nil ?_; refine thenQ_nil ?_; refine awp_seq ?_; refine awp_seq ?_; refine awp_region ?_; refine awps_stp0 rfl rfl (by decide) (stp_move (.inl rfl) rfl) ?_
  refine awps_call (avs := [_]) true rfl rfl rfl (by decide) en_facts_List rfl rfl (List_ok l hw) rfl rfl ?_; refine awps_stp0 rfl rfl (by decide) (stp_not rfl rfl) ?_; refine awps_nil ?_; refine thenQ_nil ?_; refine awp_cond rfl (fun c0 => ?_) (fun c0 => ?_)
  · try simp only [↓cqA, cqB] at c0
    refine awp_seq ?_; refine awp_region ?_; refine awps_stp0 rfl rfl (by decide) (stp_move (.inr rfl) rfl) ?_; refine awps_nil ?_; refine thenQ_nil ?_; refine awp_ret ?_; refine thenQ_ret (?_)
    -- leaf 0T
    refine ret0 (noL hL) (.inl rfl) (resAs_tmp rfl (resAs_nil)) ?_ ?_
    · rfl
    refine ⟨int_w ?_, rfl⟩
    simp_all [sortedE]
  try simp only [↓cqA, cqB] at c0
  refine awp_skip ?_; refine thenQ_nil ?_; refine awp_seq ?_; refine awp_region ?_; refine awps_stp0 rfl rfl (by decide) (stp_move (.inr rfl) rfl) ?_; refine awps_nil ?_; refine thenQ_nil ?_; refine awp_ret ?_
  -- leaf 0F
  refine ret0 (noL hL) (.inl rfl) (resAs_tmp rfl (resAs_nil)) ?_ ?_
  · rfl
  refine ⟨int_w ?_, rfl⟩
  simp_all [sortedE]
theorem Num_ok (x m : Int) : PF 57 [iv x, iv m] (bv (decide (0 ≤ x ∧ x ≤ m))) := by
  refine AC_intro Tryz.func57 rfl Tryz.ntmps57 (Nat.le_of_ble_eq_true rfl) fun c hL hQ hDD => ?_; refine awp_seq ?_; refine awp_region ?_; refine awps_stp0 rfl rfl (by decide) (stp_move (.inr rfl) rfl) ?_; refine awps_nil ?_; refine thenQ_nil ?_; refine awp_seq ?_; refine awp_region ?_; refine awps_stp0 rfl rfl (by decide) (stp_move (.inl rfl) rfl) ?_; refine awps_stp0 rfl rfl (by decide) (stp_binI rfl rfl rfl rfl) ?_; refine awps_stp0 rfl rfl (by decide) (stp_move (.inl rfl) rfl) ?_; refine awps_split 7 rfl (fun g7 => ?_) (fun g7 => ?_)
  · try simp only [↓cqA, cqB] at g7
    refine awps_g0 rfl rfl rfl (by decide) rfl (by decide) (stp_move (.inl rfl) rfl) ?_; refine awps_g0 rfl rfl rfl (by decide) rfl (by decide) (stp_move (.inl rfl) rfl) ?_; refine awps_g0 rfl rfl rfl (by decide) rfl (by decide) (stp_binI rfl rfl rfl rfl) ?_; refine awps_stp0 rfl rfl (by decide) (stp_pick rfl rfl rfl) ?_; refine awps_stp0 rfl rfl (by decide) (stp_move (.inr rfl) rfl) ?_; refine awps_nil ?_; refine thenQ_nil ?_; refine awp_ret ?_
    -- leaf g7T
    refine ret0 (noL hL) (.inl rfl) (resAs_tmp rfl (resAs_nil)) ?_ ?_
    · rfl
    refine ⟨bool_w ?_, rfl⟩
    rw [Bool.eq_iff_iff]; simp; try omega
  try simp only [↓cqA, cqB] at g7
  refine awps_gs rfl rfl rfl rfl (by decide) rfl (by decide) ?_; refine awps_gs rfl rfl rfl rfl (by decide) rfl (by decide) ?_; refine awps_gs rfl rfl rfl rfl (by decide) rfl (by decide) ?_; refine awps_stp0 rfl rfl (by decide) (stp_pick rfl rfl rfl) ?_; refine awps_stp0 rfl rfl (by decide) (stp_move (.inr rfl) rfl) ?_; refine awps_nil ?_; refine thenQ_nil ?_; refine awp_ret ?_
  -- leaf g7F
  refine ret0 (noL hL) (.inl rfl) (resAs_tmp rfl (resAs_nil)) ?_ ?_
  · rfl
  refine ⟨bool_w ?_, rfl⟩
  rw [Bool.eq_iff_iff]; simp; try omega
theorem CopyKeptsU_ok (d : Nat) (l : List Kp) (hl : l.length ≤ 1000000000) (hd : ∀ b ∈ l, dle d b.f.t) (hw : ∀ b ∈ l, b.wf) : AC Tryz.prog 44 [.dat false 7 (kpDs l)] [] (fun r O => r = .row 3 ∧ O = [(3, .rowd 92 7 false (kpDs l))]) := by
  have hlen := kpDs_length l
  refine AC_intro Tryz.func44 rfl Tryz.ntmps44 (Nat.le_of_ble_eq_true rfl) fun c hL hQ hDD => ?_; refine awp_seq ?_; refine awp_region ?_; refine awps_stp0 rfl rfl (by decide) (stp_move (.inr rfl) rfl) ?_; refine awps_nil ?_; refine thenQ_nil ?_; refine awp_seq ?_; refine awp_region ?_; refine awps_stp0 rfl rfl (by decide) (stp_move (.inr rfl) rfl) ?_; refine awps_nil ?_; refine thenQ_nil ?_
  refine awp_seq ?_; refine awp_seq ?_; refine awp_region ?_; refine awps_stp0 rfl rfl (by decide) (stp_move (.inr rfl) rfl) ?_; refine awps_nil ?_; refine thenQ_nil ?_; refine awp_block ?_; refine awp_while (l.length) (fun k => k ≤ l.length) (fun k => ⟨[(0, .dat false 7 (kpDs l)), (3, .row 3), (4, iv (k : Int))], [(3, .rowd 92 7 true (kpDs (l.take k)))]⟩) (by omega) ?_ (fun k hk hp => ?_)
  · exact Sub.trans (sub_nil_row (t := 3) (l := 3) 92 7 true rfl rfl) (sub_re (SubT.cons (lk_eq rfl (by first | rfl | simp)) (SubT.cons (lk_eq rfl (by first | rfl | simp)) (SubT.cons (lk_eq rfl (by first | rfl | simp)) (SubT.nil)))) (SubO.cons (ok_eq rfl (by rfl)) (SubO.nil)) rfl rfl (noL' (noL hL) _))
  have hl2 : (kpDs (l.take k)).length ≤ l.length := by rw [kpDs_length, List.length_take]; omega
  refine awp_seq ?_; refine awp_seq ?_; refine awp_region ?_; refine awps_stp0 rfl rfl (by decide) (stp_move (.inl rfl) rfl) ?_; refine awps_stp0 rfl rfl (by decide) (stp_move (.inl rfl) rfl) ?_; refine awps_stp0 rfl rfl (by decide) (stp_len_dat rfl sl_S_api_Kept rfl) ?_; refine awps_stp0 rfl rfl (by decide) (stp_binI rfl rfl rfl rfl) ?_; refine awps_nil ?_; refine thenQ_nil ?_; refine awp_cond rfl (fun c0 => ?_) (fun c0 => ?_)
  · try simp only [↓cqA, cqB] at c0
    obtain ⟨u, hu⟩ := get_of_lt (l := l) (k := k) (by omega)
    have hum := List.mem_of_getElem? hu
    refine awp_skip ?_; refine thenQ_nil ?_; refine awp_seq ?_; refine awp_block ?_; refine awp_region ?_; refine awps_stp0 rfl rfl (by decide) (stp_move (.inl rfl) rfl) ?_; refine awps_stp0 rfl rfl (by decide) (stp_move (.inl rfl) rfl) ?_; refine awps_stp0 rfl rfl (by decide) (stp_move (.inl rfl) rfl) ?_; refine awps_stp0 rfl rfl (by decide) (stp_indexAddr rfl sl_S_api_Kept rfl rfl (by omega) (kpDs_get hu)) ?_; refine awps_stp0 rfl rfl (by decide) (stp_load_elpa rfl tf_api_Kept rfl rfl) ?_
    refine awps_call (avs := [_]) true rfl rfl rfl (by decide) en_almagestref0_CopyKept rfl rfl (CopyKept_ok d u (hd u hum) (hw u hum)) rfl rfl ?_; refine awps_stp1 rfl rfl (by decide) (stp_buildSlice 17 rfl sl_S_api_Kept zv_api_Kept rfl rfl (by decide) (by decide) (by decide) rfl rfl rfl) rfl ?_; refine awps_u rfl rfl (by decide) (stpU_append1 18 ta_S_api_Kept rfl rfl rfl rfl rfl rfl rfl rfl (noL hL _) (by omega) rfl) rfl ?_
    refine awps_stp0 rfl rfl (by decide) (stp_move (.inr rfl) rfl) ?_; refine awps_nil ?_; refine inQ_nil ?_; refine thenQ_nil ?_; refine awp_region ?_; refine awps_stp0 rfl rfl (by decide) (stp_move (.inl rfl) rfl) ?_; refine awps_stp0 rfl rfl (by decide) (stp_add rfl rfl rfl (by omega)) ?_; refine awps_stp0 rfl rfl (by decide) (stp_move (.inr rfl) rfl) ?_; refine awps_nil ?_; refine thenQ_nil ?_; refine ⟨?_, ?_, ?_⟩
    · skip
      omega
    · skip
      omega
    exact Sub.trans (sub_rename 18 3 (noL hL _) (noL hL _)) (sub_re (SubT.cons (lk_eq rfl (by first | rfl | simp)) (SubT.cons (lk_eq rfl (by first | rfl | simp)) (SubT.cons (lk_eq rfl (by first | rfl | simp)) (SubT.nil)))) (SubO.cons (ok_eq rfl (by rw [take_snoc hu, kpDs, kpDs, List.map_append]; rfl)) (SubO.nil)) rfl rfl (noL' (noL hL) _))
  try simp only [↓cqA, cqB] at c0
  refine awp_exit ?_; refine thenQ_exit (thenQ_exit (inQ_hit ?_)); refine thenQ_nil ?_; refine awp_seq ?_; refine awp_sub (sub_untag hQ) ?_; refine awp_region ?_; refine awps_stp0 rfl rfl (by decide) (stp_move (.inl rfl) rfl) ?_; refine awps_stp0 rfl rfl (by decide) (stp_move (.inr rfl) rfl) ?_; refine awps_nil ?_; refine thenQ_nil ?_; refine awp_ret ?_
  -- leaf 0F
  change retQ _ _ _ _ _ _ _
  refine retO (O' := [(3, _)]) (.inl rfl) (resAs_tmp rfl resAs_nil) (SubO.cons rfl SubO.nil) ?_ ?_ (noL' (noL hL) _) ?_
  · rfl
  · rfl
  exact ⟨rfl, by rw [List.take_of_length_le (by omega)]; rfl⟩
theorem wKs_dle {l : List Kp} (hw : ∀ b ∈ l, b.wf) (h : wKs l ≤ 1048575) : ∀ b ∈ l, dle 30 b.f.t := fun b hb => by
  have h1 := (wgtL_mem wK 1048575 (by omega) _ l (fun u hu => (wT_range u.f.t (hw u hu).2.1).1) (by omega) h).2 b hb
  have h2 : wgt 30 b.f.t ≤ 1048575 := by
    simp only [wK, wT] at h1; omega
  exact wgt_dle 30 b.f.t h2
theorem heavy9_no {p : Ask9} (hp : p.wf) (h : heavy9 p = false) : p.L.length ≤ 2500 ∧ p.F.length ≤ 2500 ∧ p.N.length ≤ 2500 ∧ ∀ b ∈ p.L, dle 30 b.f.t := by
  obtain ⟨l, F, Z⟩ := p
  obtain ⟨⟨hlL, hwL⟩, ⟨hlF, hwF⟩, hlZ, hwZ⟩ := hp
  have hrL := wKs_range l hlL hwL
  have h1 : wgtL wF (wKs l + F.length + Z.length) F ≤ 2500 := by
    have := of_decide_eq_false h; simp only at this; omega
  obtain ⟨h2, _⟩ := wgtL_mem wF 2500 (by omega) _ F (fun u hu => (wT_range u.t (hwF u hu).1).1) (by omega) h1
  have hL : (l.length : Int) ≤ wKs l := wgtL_ge' _ _ l (fun u hu => (wT_range u.f.t (hwL u hu).2.1).1)
  exact ⟨by simp only; omega, by simp only; omega, by simp only; omega, wKs_dle hwL (Int.le_trans (show wKs l ≤ 2500 by omega) (by decide))⟩
end Go.Proofs.YtdecgkhdbfgldaaGreat
