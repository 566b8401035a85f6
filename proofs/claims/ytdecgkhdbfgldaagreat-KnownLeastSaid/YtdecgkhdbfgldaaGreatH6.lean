/- Part 6 of the proof: Fc, Iter, Fd, Ff, Fg. -/
import Derived.Test.YtdecgkhdbfgldaaGreatH5
import Derived.Shelf.SlIter.Nil
import Derived.Shelf.SortM.Plain
import Derived.Shelf.SortM.SortNone
import Derived.Ground.GgzProg
import Derived.Ground.SlgmProg
import Derived.Shelf.SlGeneric
import Derived.Test.YtdecgkhdbfgldaaGreatProg
set_option linter.unusedVariables false
set_option linter.unusedSimpArgs false
set_option maxRecDepth 8000
namespace Go.Proofs.YtdecgkhdbfgldaaGreat
open Go
def cmpI (a b : Int) : Int := if a < b then -1 else if b < a then 1 else 0
def cmpS (a b : ByteArray) : Int := Lib.compareBytes a.data.toList b.data.toList
theorem isNaN_ok (x : Int) : PFm 235 [iv x] (bv false) := by
  refine AC_intro Tryz.func235 rfl Tryz.ntmps235 (Nat.le_of_ble_eq_true rfl) fun c hL hQ hDD => ?_; refine awp_seq ?_; refine awp_region ?_; refine awps_stp0 rfl rfl (by decide) (stp_move (.inr rfl) rfl) ?_; refine awps_nil ?_; refine thenQ_nil ?_; refine awp_seq ?_; refine awp_region ?_; refine awps_stp0 rfl rfl (by decide) (stp_move (.inl rfl) rfl) ?_
  refine awps_stp0 rfl rfl (by decide) (stp_move (.inl rfl) rfl) ?_; refine awps_stp0 rfl rfl (by decide) (stp_binI rfl rfl rfl rfl) ?_; refine awps_stp0 rfl rfl (by decide) (stp_move (.inr rfl) rfl) ?_; refine awps_nil ?_; refine thenQ_nil ?_; refine awp_ret ?_
  -- leaf 
  refine ret0 (noL hL) (.inl rfl) (resAs_tmp rfl (resAs_nil)) ?_ ?_
  · rfl
  refine ⟨bool_w ?_, rfl⟩
  simp
theorem cmpInt_ok (x y : Int) : PFm 184 [iv x, iv y] (iv (cmpI x y)) := by
  refine AC_intro Tryz.func184 rfl Tryz.ntmps184 (Nat.le_of_ble_eq_true rfl) fun c hL hQ hDD => ?_; refine awp_seq ?_; refine awp_region ?_; refine awps_stp0 rfl rfl (by decide) (stp_move (.inr rfl) rfl) ?_; refine awps_nil ?_; refine thenQ_nil ?_; refine awp_seq ?_; refine awp_region ?_; refine awps_stp0 rfl rfl (by decide) (stp_move (.inl rfl) rfl) ?_
  refine awps_call (avs := [_]) true rfl rfl rfl (by decide) en_cmp_isNaN_int rfl rfl (isNaN_ok _) rfl rfl ?_; refine awps_stp0 rfl rfl (by decide) (stp_move (.inr rfl) rfl) ?_; refine awps_nil ?_; refine thenQ_nil ?_; refine awp_seq ?_; refine awp_region ?_; refine awps_stp0 rfl rfl (by decide) (stp_move (.inl rfl) rfl) ?_
  refine awps_call (avs := [_]) true rfl rfl rfl (by decide) en_cmp_isNaN_int rfl rfl (isNaN_ok _) rfl rfl ?_; refine awps_stp0 rfl rfl (by decide) (stp_move (.inr rfl) rfl) ?_; refine awps_nil ?_; refine thenQ_nil ?_; refine awp_seq ?_; refine awp_seq ?_; refine awp_region ?_; refine awps_stp0 rfl rfl (by decide) (stp_move (.inl rfl) rfl) ?_; refine awps_nil ?_; refine thenQ_nil ?_
  refine awp_cond rfl (fun c0 => ?_) (fun c0 => ?_)
  · try simp only [↓cqA, cqB] at c0
    cases c0
  try simp only [↓cqA, cqB] at c0
  refine awp_skip ?_; refine thenQ_nil ?_; refine awp_seq ?_; refine awp_seq ?_; refine awp_region ?_; refine awps_stp0 rfl rfl (by decide) (stp_move (.inl rfl) rfl) ?_; refine awps_nil ?_; refine thenQ_nil ?_; refine awp_cond rfl (fun c2 => ?_) (fun c2 => ?_)
  · try simp only [↓cqA, cqB] at c2
    cases c2
  try simp only [↓cqA, cqB] at c2
  refine awp_skip ?_; refine thenQ_nil ?_; refine awp_seq ?_; refine awp_seq ?_; refine awp_region ?_; refine awps_stp0 rfl rfl (by decide) (stp_move (.inl rfl) rfl) ?_; refine awps_stp0 rfl rfl (by decide) (stp_move (.inl rfl) rfl) ?_; refine awps_stp0 rfl rfl (by decide) (stp_binI rfl rfl rfl rfl) ?_; refine awps_nil ?_; refine thenQ_nil ?_; refine awp_cond rfl (fun c3 => ?_) (fun c3 => ?_)
  · try simp only [↓cqA, cqB] at c3
    refine awp_seq ?_; refine awp_region ?_; refine awps_stp0 rfl rfl (by decide) (stp_move (.inr rfl) rfl) ?_; refine awps_nil ?_; refine thenQ_nil ?_; refine awp_ret ?_; refine thenQ_ret (?_)
    -- leaf 0F2F3T
    refine ret0 (noL hL) (.inl rfl) (resAs_tmp rfl (resAs_nil)) ?_ ?_
    · rfl
    refine ⟨int_w ?_, rfl⟩
    simp only [cmpI]; split <;> (try split) <;> omega
  try simp only [↓cqA, cqB] at c3
  refine awp_skip ?_; refine thenQ_nil ?_; refine awp_seq ?_; refine awp_seq ?_; refine awp_region ?_; refine awps_stp0 rfl rfl (by decide) (stp_move (.inl rfl) rfl) ?_; refine awps_stp0 rfl rfl (by decide) (stp_move (.inl rfl) rfl) ?_; refine awps_stp0 rfl rfl (by decide) (stp_binI rfl rfl rfl rfl) ?_; refine awps_nil ?_; refine thenQ_nil ?_; refine awp_cond rfl (fun c4 => ?_) (fun c4 => ?_)
  · try simp only [↓cqA, cqB] at c4
    refine awp_seq ?_; refine awp_region ?_; refine awps_stp0 rfl rfl (by decide) (stp_move (.inr rfl) rfl) ?_; refine awps_nil ?_; refine thenQ_nil ?_; refine awp_ret ?_; refine thenQ_ret (?_)
    -- leaf 0F2F3F4T
    refine ret0 (noL hL) (.inl rfl) (resAs_tmp rfl (resAs_nil)) ?_ ?_
    · rfl
    refine ⟨int_w ?_, rfl⟩
    simp only [cmpI]; split <;> (try split) <;> omega
  try simp only [↓cqA, cqB] at c4
  refine awp_skip ?_; refine thenQ_nil ?_; refine awp_seq ?_; refine awp_region ?_; refine awps_stp0 rfl rfl (by decide) (stp_move (.inr rfl) rfl) ?_; refine awps_nil ?_; refine thenQ_nil ?_; refine awp_ret ?_
  -- leaf 0F2F3F4F
  refine ret0 (noL hL) (.inl rfl) (resAs_tmp rfl (resAs_nil)) ?_ ?_
  · rfl
  refine ⟨int_w ?_, rfl⟩
  simp only [cmpI]; split <;> (try split) <;> omega
def orL : List Int → Int
  | [] => 0
  | a :: l => if a = 0 then orL l else a
theorem orL_drop : ∀ (l : List Int) (k : Nat), (∀ j x, j < k → l[j]? = some x → x = 0) → orL l = orL (l.drop k)
  | l, 0, _ => by simp
  | [], k + 1, _ => by simp
  | a :: l, k + 1, h => by
    have h0 := h 0 a (by omega) (by simp)
    simp only [orL, if_pos h0, List.drop_succ_cons]
    exact orL_drop l k fun j x hj hx => h (j + 1) x (by omega) (by simpa using hx)
def intDs (l : List Int) : List (List D) := l.map fun x => [.imm (.int .i64 x)]
theorem intDs_get {l : List Int} {k : Nat} {x : Int} (h : l[k]? = some x) : (intDs l)[k]? = some [.imm (.int .i64 x)] := by simp [intDs, h]
theorem cmpOr_ok (l : List Int) (hl : l.length ≤ 1000000) : PFm 183 [.dat false 1 (intDs l)] (iv (orL l)) := by
  have hlen : (intDs l).length = l.length := by simp [intDs]
  refine AC_intro Tryz.func183 rfl Tryz.ntmps183 (Nat.le_of_ble_eq_true rfl) fun c hL hQ hDD => ?_; refine awp_seq ?_; refine awp_region ?_; refine awps_stp0 rfl rfl (by decide) (stp_move (.inr rfl) rfl) ?_; refine awps_nil ?_; refine thenQ_nil ?_; refine awp_seq ?_; refine awp_region ?_; refine awps_stp0 rfl rfl (by decide) (stp_move (.inr rfl) rfl) ?_; refine awps_nil ?_; refine thenQ_nil ?_
  refine awp_seq ?_; refine awp_seq ?_; refine awp_region ?_; refine awps_stp0 rfl rfl (by decide) (stp_move (.inl rfl) rfl) ?_
  first | refine awps_stp0 rfl rfl (by decide) (stp_len_dat rfl sl_S_int rfl) ?_ | refine awps_stp0 rfl rfl (by decide) (stp_len_rowd rfl sl_S_int rfl rfl) ?_ | refine awps_stp0 rfl rfl (by decide) (stp_len_nil rfl sl_S_int rfl) ?_ | refine awps_stp0 rfl rfl (by decide) (stp_len_vw rfl sl_S_int rfl) ?_
  refine awps_stp0 rfl rfl (by decide) (stp_move (.inl rfl) rfl) ?_; refine awps_nil ?_; refine thenQ_nil ?_; refine awp_block ?_; refine awp_while (l.length) (fun k => k ≤ l.length ∧ ∀ j x, j < k → l[j]? = some x → x = 0) (fun k => ⟨[(3, iv 0), (6, .dat false 1 (intDs l)), (7, iv (intDs l).length), (8, iv (k : Int))], []⟩) (⟨by omega, fun j x hj => absurd hj (by omega)⟩) ?_ (fun k hk hp => ?_)
  · exact sub_re (SubT.cons (lk_eq rfl (by first | rfl | simp)) (SubT.cons (lk_eq rfl (by first | rfl | simp)) (SubT.cons (lk_eq rfl (by first | rfl | simp)) (SubT.cons (lk_eq rfl (by first | rfl | simp)) (SubT.nil))))) (SubO.nil) rfl rfl (noL' (noL hL) _)
  refine awp_seq ?_; refine awp_region ?_; refine awps_stp0 rfl rfl (by decide) (stp_binI rfl rfl rfl rfl) ?_; refine awps_nil ?_; refine thenQ_nil ?_; refine awp_seq ?_; refine awp_cond rfl (fun c0 => ?_) (fun c0 => ?_)
  · try simp only [↓cqA, cqB] at c0
    obtain ⟨u, hu⟩ := get_of_lt (l := l) (k := k) (by omega)
    refine awp_skip ?_; refine thenQ_nil ?_; refine awp_seq ?_; refine awp_block ?_; refine awp_seq ?_; refine awp_region ?_
    first | refine awps_stp0 rfl rfl (by decide) (stp_indexAddr rfl sl_S_int rfl rfl (by omega) (intDs_get hu)) ?_ | refine awps_stp0 rfl rfl (by decide) (stp_indexAddr_rowd rfl sl_S_int rfl rfl rfl (by omega) (intDs_get hu)) ?_ | refine awps_stp0 rfl rfl (by decide) (stp_indexAddr_row rfl sl_S_int rfl rfl rfl (by omega) (intDs_get hu) (by decide)) ?_
    first | refine awps_stp0 rfl rfl (by decide) (stp_load rfl tf_int rfl rfl rfl rfl rfl) ?_ | refine awps_stp0 rfl rfl (by decide) (stp_load_elp1 rfl tf_int rfl) ?_ | refine awps_stp0 rfl rfl (by decide) (stp_load_elpn rfl tf_int rfl rfl rfl) ?_
    refine awps_stp0 rfl rfl (by decide) (stp_move (.inr rfl) rfl) ?_; refine awps_nil ?_; refine thenQ_nil ?_; refine awp_seq ?_; refine awp_region ?_; refine awps_stp0 rfl rfl (by decide) (stp_move (.inl rfl) rfl) ?_; refine awps_stp0 rfl rfl (by decide) (stp_move (.inl rfl) rfl) ?_; refine awps_stp0 rfl rfl (by decide) (stp_binI rfl rfl rfl rfl) ?_; refine awps_nil ?_; refine thenQ_nil ?_
    refine awp_cond rfl (fun c1 => ?_) (fun c1 => ?_)
    · try simp only [↓cqA, cqB] at c1
      refine awp_seq ?_; refine awp_region ?_; refine awps_stp0 rfl rfl (by decide) (stp_move (.inl rfl) rfl) ?_; refine awps_stp0 rfl rfl (by decide) (stp_move (.inr rfl) rfl) ?_; refine awps_nil ?_; refine thenQ_nil ?_; refine awp_ret ?_; refine inQ_ret (thenQ_ret (thenQ_ret (inQ_ret (thenQ_ret (?_)))))
      -- leaf 0T1T
      refine ret0 (noL hL) (.inl rfl) (resAs_tmp rfl (resAs_nil)) ?_ ?_
      · rfl
      refine ⟨int_w ?_, rfl⟩
      rw [orL_drop l k hp.2, List.drop_eq_getElem_cons (by omega), orL]
      have h2 := List.getElem?_eq_some_iff.1 hu
      rw [h2.2, if_neg (by simpa using c1)]
    try simp only [↓cqA, cqB] at c1
    refine awp_skip ?_; refine inQ_nil ?_; refine thenQ_nil ?_; refine awp_region ?_; refine awps_stp0 rfl rfl (by decide) (stp_add rfl rfl rfl (by omega)) ?_; refine awps_stp0 rfl rfl (by decide) (stp_move (.inl rfl) rfl) ?_; refine awps_nil ?_; refine thenQ_nil ?_; refine ⟨?_, ?_, ?_⟩
    · skip
      omega
    · skip
      refine ⟨by omega, fun j x hj hx => ?_⟩
      by_cases hjk : j < k
      · exact hp.2 j x hjk hx
      · rw [show j = k by omega, hu] at hx; cases hx; simpa using c1
    exact sub_re (SubT.cons (lk_eq rfl (by first | rfl | simp)) (SubT.cons (lk_eq rfl (by first | rfl | simp)) (SubT.cons (lk_eq rfl (by first | rfl | simp)) (SubT.cons (lk_eq rfl (by first | rfl | simp)) (SubT.nil))))) (SubO.nil) rfl rfl (noL' (noL hL) _)
  try simp only [↓cqA, cqB] at c0
  refine awp_exit ?_; refine thenQ_exit (thenQ_exit (inQ_hit ?_)); refine thenQ_nil ?_; refine awp_seq ?_; refine awp_region ?_; refine awps_stp0 rfl rfl (by decide) (stp_move (.inl rfl) rfl) ?_; refine awps_stp0 rfl rfl (by decide) (stp_move (.inr rfl) rfl) ?_; refine awps_nil ?_; refine thenQ_nil ?_; refine awp_ret ?_
  -- leaf 0F
  refine ret0 (noL hL) (.inl rfl) (resAs_tmp rfl (resAs_nil)) ?_ ?_
  · rfl
  refine ⟨int_w ?_, rfl⟩
  rw [orL_drop l k hp.2, List.drop_eq_nil_of_le (by omega), orL]
theorem CompareString_ok (a b : ByteArray) : PFm 209 [sv a, sv b] (iv (cmpS a b)) := by
  refine AC_intro Tryz.func209 rfl Tryz.ntmps209 (Nat.le_of_ble_eq_true rfl) fun c hL hQ hDD => ?_; refine awp_seq ?_; refine awp_region ?_; refine awps_stp0 rfl rfl (by decide) (stp_move (.inr rfl) rfl) ?_; refine awps_nil ?_; refine thenQ_nil ?_; refine awp_seq ?_; refine awp_region ?_; refine awps_stp0 rfl rfl (by decide) (stp_move (.inl rfl) rfl) ?_
  refine awps_stp0 rfl rfl (by decide) (stp_move (.inl rfl) rfl) ?_; refine awps_stp0 rfl rfl (by decide) (stp_cmpstring Tryz.func254 (by kernel_rfl) (by kernel_rfl) (by kernel_rfl) (by kernel_rfl) rfl rfl rfl) ?_; refine awps_stp0 rfl rfl (by decide) (stp_move (.inr rfl) rfl) ?_; refine awps_nil ?_; refine thenQ_nil ?_; refine awp_ret ?_
  -- leaf 
  refine ret0 (noL hL) (.inl rfl) (resAs_tmp rfl (resAs_nil)) ?_ ?_
  · rfl
  exact ⟨rfl, rfl⟩
theorem stringsCompare_ok (a b : ByteArray) : PFm 151 [sv a, sv b] (iv (cmpS a b)) := by
  refine AC_intro Tryz.func151 rfl Tryz.ntmps151 (Nat.le_of_ble_eq_true rfl) fun c hL hQ hDD => ?_; refine awp_seq ?_; refine awp_region ?_; refine awps_stp0 rfl rfl (by decide) (stp_move (.inr rfl) rfl) ?_; refine awps_nil ?_; refine thenQ_nil ?_; refine awp_seq ?_; refine awp_region ?_; refine awps_stp0 rfl rfl (by decide) (stp_move (.inl rfl) rfl) ?_
  refine awps_stp0 rfl rfl (by decide) (stp_move (.inl rfl) rfl) ?_; refine awps_call (avs := [_, _]) true rfl rfl rfl (by decide) en_internal_bytealg_CompareString rfl rfl (CompareString_ok _ _) rfl rfl ?_; refine awps_stp0 rfl rfl (by decide) (stp_move (.inr rfl) rfl) ?_; refine awps_nil ?_; refine thenQ_nil ?_; refine awp_ret ?_
  -- leaf 
  refine ret0 (noL hL) (.inl rfl) (resAs_tmp rfl (resAs_nil)) ?_ ?_
  · rfl
  exact ⟨rfl, rfl⟩
def cmpL (f : Tm → Tm → Int) : List Tm → List Tm → Int
  | [], [] => 0
  | [], _ :: _ => -1
  | _ :: _, [] => 1
  | a :: x, b :: y => if f a b = 0 then cmpL f x y else f a b
theorem cmpL_drop (f : Tm → Tm → Int) : ∀ (x y : List Tm) (k : Nat), k ≤ x.length → k ≤ y.length → (∀ j a b, j < k → x[j]? = some a → y[j]? = some b → f a b = 0) → cmpL f x y = cmpL f (x.drop k) (y.drop k)
  | x, y, 0, _, _, _ => by simp
  | [], y, k + 1, h, _, _ => by simp at h
  | x, [], k + 1, _, h, _ => by simp at h
  | a :: x, b :: y, k + 1, h1, h2, h => by
    have h0 := h 0 a b (by omega) (by simp) (by simp)
    simp only [cmpL, if_pos h0, List.drop_succ_cons]
    exact cmpL_drop f x y k (by simpa using h1) (by simpa using h2) fun j a b hj hx hy => h (j + 1) a b (by omega) (by simpa using hx) (by simpa using hy)
theorem CompareFunc_ok (x y : List Tm) (hx : x.length ≤ 140737488351232) (hy : y.length ≤ 140737488351232) (f : Tm → Tm → Int) (g : FuncId) (hen : Enters Tryz.prog g) (hg : ∀ a b, a ∈ x → b ∈ y → PFm g [tmA false a, tmA false b] (iv (f a b))) :
    PFm 197 [.dat false 4 (tmDs x), .dat false 4 (tmDs y), .fn g []] (iv (cmpL f x y)) := by
  have hlx := tmDs_length x
  have hly := tmDs_length y
  refine AC_intro Tryz.func197 rfl Tryz.ntmps197 (Nat.le_of_ble_eq_true rfl) fun c hL hQ hDD => ?_; refine awp_seq ?_; refine awp_region ?_; refine awps_stp0 rfl rfl (by decide) (stp_move (.inr rfl) rfl) ?_; refine awps_nil ?_; refine thenQ_nil ?_; refine awp_seq ?_; refine awp_seq ?_; refine awp_region ?_; refine awps_stp0 rfl rfl (by decide) (stp_move (.inl rfl) rfl) ?_
  first | refine awps_stp0 rfl rfl (by decide) (stp_len_dat rfl sl_S_api_Term rfl) ?_ | refine awps_stp0 rfl rfl (by decide) (stp_len_rowd rfl sl_S_api_Term rfl rfl) ?_ | refine awps_stp0 rfl rfl (by decide) (stp_len_nil rfl sl_S_api_Term rfl) ?_ | refine awps_stp0 rfl rfl (by decide) (stp_len_vw rfl sl_S_api_Term rfl) ?_
  refine awps_stp0 rfl rfl (by decide) (stp_move (.inl rfl) rfl) ?_; refine awps_nil ?_; refine thenQ_nil ?_; refine awp_block ?_
  refine awp_while (x.length) (fun k => k ≤ x.length ∧ k ≤ y.length ∧ ∀ j a b, j < k → x[j]? = some a → y[j]? = some b → f a b = 0) (fun k => ⟨[(0, .dat false 4 (tmDs x)), (1, .dat false 4 (tmDs y)), (2, .fn g []), (11, .dat false 4 (tmDs x)), (12, iv (tmDs x).length), (13, iv (k : Int))], []⟩) (⟨by omega, by omega, fun j a b hj => absurd hj (by omega)⟩) ?_ (fun k hk hp => ?_)
  · exact sub_re (SubT.cons (lk_eq rfl (by first | rfl | simp)) (SubT.cons (lk_eq rfl (by first | rfl | simp)) (SubT.cons (lk_eq rfl (by first | rfl | simp)) (SubT.cons (lk_eq rfl (by first | rfl | simp)) (SubT.cons (lk_eq rfl (by first | rfl | simp)) (SubT.cons (lk_eq rfl (by first | rfl | simp)) (SubT.nil))))))) (SubO.nil) rfl rfl (noL' (noL hL) _)
  refine awp_seq ?_; refine awp_region ?_; refine awps_stp0 rfl rfl (by decide) (stp_binI rfl rfl rfl rfl) ?_; refine awps_nil ?_; refine thenQ_nil ?_; refine awp_seq ?_; refine awp_cond rfl (fun c0 => ?_) (fun c0 => ?_)
  · try simp only [↓cqA, cqB] at c0
    obtain ⟨u, hu⟩ := get_of_lt (l := x) (k := k) (by omega)
    have hu2 := List.getElem?_eq_some_iff.1 hu
    refine awp_skip ?_; refine thenQ_nil ?_; refine awp_seq ?_; refine awp_block ?_; refine awp_seq ?_; refine awp_region ?_; refine awps_stp0 rfl rfl (by decide) (stp_move (.inl rfl) rfl) ?_
    first | refine awps_stp0 rfl rfl (by decide) (stp_indexAddr rfl sl_S_api_Term rfl rfl (by omega) (tmDs_get hu)) ?_ | refine awps_stp0 rfl rfl (by decide) (stp_indexAddr_rowd rfl sl_S_api_Term rfl rfl rfl (by omega) (tmDs_get hu)) ?_ | refine awps_stp0 rfl rfl (by decide) (stp_indexAddr_row rfl sl_S_api_Term rfl rfl rfl (by omega) (tmDs_get hu) (by decide)) ?_
    first | refine awps_stp0 rfl rfl (by decide) (stp_load_all rfl tf_api_Term rfl rfl rfl rfl) ?_ | refine awps_stp0 rfl rfl (by decide) (stp_load rfl tf_api_Term rfl rfl rfl rfl rfl) ?_ | refine awps_stp0 rfl rfl (by decide) (stp_load_elpa rfl tf_api_Term rfl rfl) ?_ | refine awps_stp0 rfl rfl (by decide) (stp_load_elpn rfl tf_api_Term rfl rfl rfl) ?_
    refine awps_stp1 rfl rfl (by decide) (stp_alloc 8 rfl zv_api_Term rfl) rfl ?_; refine awps_stp0 rfl rfl (by decide) (stp_move (.inr rfl) rfl) ?_; refine awps_store rfl rfl rfl tf_api_Term rfl rfl rfl rfl rfl rfl rfl rfl rfl ?_; refine awps_nil ?_; refine thenQ_nil ?_; refine awp_seq ?_; refine awp_seq ?_; refine awp_region ?_
    refine awps_stp0 rfl rfl (by decide) (stp_move (.inl rfl) rfl) ?_; refine awps_stp0 rfl rfl (by decide) (stp_move (.inl rfl) rfl) ?_
    first | refine awps_stp0 rfl rfl (by decide) (stp_len_dat rfl sl_S_api_Term rfl) ?_ | refine awps_stp0 rfl rfl (by decide) (stp_len_rowd rfl sl_S_api_Term rfl rfl) ?_ | refine awps_stp0 rfl rfl (by decide) (stp_len_nil rfl sl_S_api_Term rfl) ?_ | refine awps_stp0 rfl rfl (by decide) (stp_len_vw rfl sl_S_api_Term rfl) ?_
    refine awps_stp0 rfl rfl (by decide) (stp_binI rfl rfl rfl rfl) ?_; refine awps_nil ?_; refine thenQ_nil ?_; refine awp_cond rfl (fun c1 => ?_) (fun c1 => ?_)
    · try simp only [↓cqA, cqB] at c1
      refine awp_seq ?_; refine awp_region ?_; refine awps_stp0 rfl rfl (by decide) (stp_move (.inr rfl) rfl) ?_; refine awps_nil ?_; refine thenQ_nil ?_; refine awp_ret ?_; refine thenQ_ret (inQ_ret (thenQ_ret (thenQ_ret (inQ_ret (thenQ_ret (?_))))))
      -- leaf 0T1T
      refine ret0 (noL hL) (.inl rfl) (resAs_tmp rfl (resAs_nil)) ?_ ?_
      · rfl
      refine ⟨int_w ?_, rfl⟩
      rw [cmpL_drop f x y k (by omega) (by omega) hp.2.2, List.drop_eq_getElem_cons (by omega), show List.drop k y = [] from List.drop_eq_nil_of_le (by omega), cmpL]
    try simp only [↓cqA, cqB] at c1
    obtain ⟨v, hv⟩ := get_of_lt (l := y) (k := k) (by omega)
    have hv2 := List.getElem?_eq_some_iff.1 hv
    refine awp_skip ?_; refine thenQ_nil ?_; refine awp_seq ?_; refine awp_region ?_; refine awps_stp0 rfl rfl (by decide) (stp_move (.inl rfl) rfl) ?_; refine awps_stp0 rfl rfl (by decide) (stp_move (.inl rfl) rfl) ?_
    first | refine awps_stp0 rfl rfl (by decide) (stp_indexAddr rfl sl_S_api_Term rfl rfl (by omega) (tmDs_get hv)) ?_ | refine awps_stp0 rfl rfl (by decide) (stp_indexAddr_rowd rfl sl_S_api_Term rfl rfl rfl (by omega) (tmDs_get hv)) ?_ | refine awps_stp0 rfl rfl (by decide) (stp_indexAddr_row rfl sl_S_api_Term rfl rfl rfl (by omega) (tmDs_get hv) (by decide)) ?_
    first | refine awps_stp0 rfl rfl (by decide) (stp_load_all rfl tf_api_Term rfl rfl rfl rfl) ?_ | refine awps_stp0 rfl rfl (by decide) (stp_load rfl tf_api_Term rfl rfl rfl rfl rfl) ?_ | refine awps_stp0 rfl rfl (by decide) (stp_load_elpa rfl tf_api_Term rfl rfl) ?_ | refine awps_stp0 rfl rfl (by decide) (stp_load_elpn rfl tf_api_Term rfl rfl rfl) ?_
    refine awps_stp1 rfl rfl (by decide) (stp_alloc 9 rfl zv_api_Term rfl) rfl ?_; refine awps_store rfl rfl rfl tf_api_Term rfl rfl rfl rfl rfl rfl rfl rfl rfl ?_; refine awps_nil ?_; refine thenQ_nil ?_; refine awp_seq ?_; refine awp_region ?_; refine awps_stp0 rfl rfl (by decide) (stp_move (.inl rfl) rfl) ?_
    first | refine awps_stp0 rfl rfl (by decide) (stp_load_all rfl tf_api_Term rfl rfl rfl rfl) ?_ | refine awps_stp0 rfl rfl (by decide) (stp_load rfl tf_api_Term rfl rfl rfl rfl rfl) ?_ | refine awps_stp0 rfl rfl (by decide) (stp_load_elpa rfl tf_api_Term rfl rfl) ?_ | refine awps_stp0 rfl rfl (by decide) (stp_load_elpn rfl tf_api_Term rfl rfl rfl) ?_
    first | refine awps_stp0 rfl rfl (by decide) (stp_load_all rfl tf_api_Term rfl rfl rfl rfl) ?_ | refine awps_stp0 rfl rfl (by decide) (stp_load rfl tf_api_Term rfl rfl rfl rfl rfl) ?_ | refine awps_stp0 rfl rfl (by decide) (stp_load_elpa rfl tf_api_Term rfl rfl) ?_ | refine awps_stp0 rfl rfl (by decide) (stp_load_elpn rfl tf_api_Term rfl rfl rfl) ?_
    refine awps_call (avs := [_, _]) true rfl rfl rfl (by decide) hen rfl rfl (hg u v (List.mem_of_getElem? hu) (List.mem_of_getElem? hv)) rfl rfl ?_; refine awps_stp0 rfl rfl (by decide) (stp_move (.inr rfl) rfl) ?_; refine awps_nil ?_; refine thenQ_nil ?_; refine awp_seq ?_; refine awp_region ?_; refine awps_stp0 rfl rfl (by decide) (stp_move (.inl rfl) rfl) ?_
    refine awps_stp0 rfl rfl (by decide) (stp_binI rfl rfl rfl rfl) ?_; refine awps_nil ?_; refine thenQ_nil ?_; refine awp_cond rfl (fun c2 => ?_) (fun c2 => ?_)
    · try simp only [↓cqA, cqB] at c2
      refine awp_seq ?_; refine awp_region ?_; refine awps_stp0 rfl rfl (by decide) (stp_move (.inl rfl) rfl) ?_; refine awps_stp0 rfl rfl (by decide) (stp_move (.inr rfl) rfl) ?_; refine awps_nil ?_; refine thenQ_nil ?_; refine awp_ret ?_; refine inQ_ret (thenQ_ret (thenQ_ret (inQ_ret (thenQ_ret (?_)))))
      -- leaf 0T1F2T
      refine ret0 (noL hL) (.inl rfl) (resAs_tmp rfl (resAs_nil)) ?_ ?_
      · rfl
      refine ⟨int_w ?_, rfl⟩
      rw [cmpL_drop f x y k (by omega) (by omega) hp.2.2, List.drop_eq_getElem_cons (by omega), List.drop_eq_getElem_cons (l := y) (by omega), cmpL, hu2.2, hv2.2, if_neg (by simpa using c2)]
    try simp only [↓cqA, cqB] at c2
    refine awp_skip ?_; refine inQ_nil ?_; refine thenQ_nil ?_; refine awp_region ?_; refine awps_stp0 rfl rfl (by decide) (stp_add rfl rfl rfl (by omega)) ?_; refine awps_stp0 rfl rfl (by decide) (stp_move (.inl rfl) rfl) ?_; refine awps_nil ?_; refine thenQ_nil ?_; refine ⟨?_, ?_, ?_⟩
    · skip
      omega
    · skip
      refine ⟨by omega, by omega, fun j a b hj hx hy => ?_⟩
      by_cases hjk : j < k
      · exact hp.2.2 j a b hjk hx hy
      · rw [show j = k by omega] at hx hy; rw [hu] at hx; rw [hv] at hy; cases hx; cases hy; simpa using c2
    exact sub_re (SubT.cons (lk_eq rfl (by first | rfl | simp)) (SubT.cons (lk_eq rfl (by first | rfl | simp)) (SubT.cons (lk_eq rfl (by first | rfl | simp)) (SubT.cons (lk_eq rfl (by first | rfl | simp)) (SubT.cons (lk_eq rfl (by first | rfl | simp)) (SubT.cons (lk_eq rfl (by first | rfl | simp)) (SubT.nil))))))) (SubO.nil) rfl rfl (noL' (noL hL) _)
  try simp only [↓cqA, cqB] at c0
  refine awp_exit ?_; refine thenQ_exit (thenQ_exit (inQ_hit ?_)); refine thenQ_nil ?_; refine awp_seq ?_; refine awp_seq ?_; refine awp_region ?_; refine awps_stp0 rfl rfl (by decide) (stp_move (.inl rfl) rfl) ?_
  first | refine awps_stp0 rfl rfl (by decide) (stp_len_dat rfl sl_S_api_Term rfl) ?_ | refine awps_stp0 rfl rfl (by decide) (stp_len_rowd rfl sl_S_api_Term rfl rfl) ?_ | refine awps_stp0 rfl rfl (by decide) (stp_len_nil rfl sl_S_api_Term rfl) ?_ | refine awps_stp0 rfl rfl (by decide) (stp_len_vw rfl sl_S_api_Term rfl) ?_
  refine awps_stp0 rfl rfl (by decide) (stp_move (.inl rfl) rfl) ?_
  first | refine awps_stp0 rfl rfl (by decide) (stp_len_dat rfl sl_S_api_Term rfl) ?_ | refine awps_stp0 rfl rfl (by decide) (stp_len_rowd rfl sl_S_api_Term rfl rfl) ?_ | refine awps_stp0 rfl rfl (by decide) (stp_len_nil rfl sl_S_api_Term rfl) ?_ | refine awps_stp0 rfl rfl (by decide) (stp_len_vw rfl sl_S_api_Term rfl) ?_
  refine awps_stp0 rfl rfl (by decide) (stp_binI rfl rfl rfl rfl) ?_; refine awps_nil ?_; refine thenQ_nil ?_; refine awp_cond rfl (fun c3 => ?_) (fun c3 => ?_)
  · try simp only [↓cqA, cqB] at c3
    refine awp_seq ?_; refine awp_region ?_; refine awps_stp0 rfl rfl (by decide) (stp_move (.inr rfl) rfl) ?_; refine awps_nil ?_; refine thenQ_nil ?_; refine awp_ret ?_; refine thenQ_ret (?_)
    -- leaf 0F3T
    refine ret0 (noL hL) (.inl rfl) (resAs_tmp rfl (resAs_nil)) ?_ ?_
    · rfl
    refine ⟨int_w ?_, rfl⟩
    rw [cmpL_drop f x y k (by omega) (by omega) hp.2.2, List.drop_eq_nil_of_le (by omega), List.drop_eq_getElem_cons (l := y) (by omega), cmpL]
  try simp only [↓cqA, cqB] at c3
  refine awp_skip ?_; refine thenQ_nil ?_; refine awp_seq ?_; refine awp_region ?_; refine awps_stp0 rfl rfl (by decide) (stp_move (.inr rfl) rfl) ?_; refine awps_nil ?_; refine thenQ_nil ?_; refine awp_ret ?_
  -- leaf 0F3F
  refine ret0 (noL hL) (.inl rfl) (resAs_tmp rfl (resAs_nil)) ?_ ?_
  · rfl
  refine ⟨int_w ?_, rfl⟩
  rw [cmpL_drop f x y k (by omega) (by omega) hp.2.2, List.drop_eq_nil_of_le (by omega), List.drop_eq_nil_of_le (by omega), cmpL]
def dle : Nat → Tm → Prop
  | 0, _ => False
  | d + 1, t => ∀ u, u ∈ t.args → dle d u
def cmpT : Nat → Tm → Tm → Int
  | 0, _, _ => 0
  | d + 1, a, b =>
    if orL [cmpI a.kind b.kind, cmpI a.n b.n, cmpI a.args.length b.args.length, cmpS a.name b.name] = 0 then cmpL (cmpT d) a.args b.args
    else orL [cmpI a.kind b.kind, cmpI a.n b.n, cmpI a.args.length b.args.length, cmpS a.name b.name]
theorem Tm.wfs_mem {ts : List Tm} {t : Tm} (h : Tm.wfs ts) (hm : t ∈ ts) : t.wf := by
  obtain ⟨i, hi⟩ := List.getElem?_of_mem hm
  exact Tm.wfs_get h hi
theorem Compare_ok : ∀ (d : Nat) (a b : Tm), dle d a → a.wf → b.wf → PFm 135 [tmA false a, tmA false b] (iv (cmpT d a b))
  | 0, a, b, h, _, _ => h.elim
  | d + 1, a, b, h, ha, hb => by
    have h1 := ha.2.2.2.1
    have h2 := hb.2.2.2.1
    have hla := tmDs_length a.args
    have hlb := tmDs_length b.args
    refine AC_intro Tryz.func135 rfl Tryz.ntmps135 (Nat.le_of_ble_eq_true rfl) fun c hL hQ hDD => ?_; refine awp_seq ?_; refine awp_region ?_; refine awps_stp1 rfl rfl (by decide) (stp_box 2 rfl rfl rfl) rfl ?_; refine awps_stp1 rfl rfl (by decide) (stp_box 3 rfl rfl rfl) rfl ?_; refine awps_stp0 rfl rfl (by decide) (stp_move (.inr rfl) rfl) ?_; refine awps_nil ?_; refine thenQ_nil ?_
    refine awp_seq ?_; refine awp_seq ?_; refine awp_drawG 21 mixed rfl rfl rfl rfl ?_
    first | refine MGo_c0 rfl (by decide) (.run rfl (stp_fieldAddr rfl fo_api_Term_0 rfl)) ?_ | refine MGo_c0 rfl (by decide) (.run rfl (stp_fieldAddr_elp rfl fo_api_Term_0 rfl)) ?_
    first | refine MGo_c0 rfl (by decide) (.run rfl (stp_load rfl tf_int rfl rfl rfl rfl rfl)) ?_ | refine MGo_c0 rfl (by decide) (.run rfl (stp_load_elp1 rfl tf_int rfl)) ?_ | refine MGo_c0 rfl (by decide) (.run rfl (stp_load_elpn rfl tf_int rfl rfl rfl)) ?_
    first | refine MGo_c0 rfl (by decide) (.run rfl (stp_fieldAddr rfl fo_api_Term_0 rfl)) ?_ | refine MGo_c0 rfl (by decide) (.run rfl (stp_fieldAddr_elp rfl fo_api_Term_0 rfl)) ?_
    first | refine MGo_c0 rfl (by decide) (.run rfl (stp_load rfl tf_int rfl rfl rfl rfl rfl)) ?_ | refine MGo_c0 rfl (by decide) (.run rfl (stp_load_elp1 rfl tf_int rfl)) ?_ | refine MGo_c0 rfl (by decide) (.run rfl (stp_load_elpn rfl tf_int rfl rfl rfl)) ?_
    refine MGo_c0 rfl (by decide) (.run rfl (stp_call (avs := [_, _]) true rfl en_cmp_Compare_int rfl rfl (cmpInt_ok _ _) (fun _ => rfl) rfl)) ?_
    first | refine MGo_c0 rfl (by decide) (.run rfl (stp_fieldAddr rfl fo_api_Term_2 rfl)) ?_ | refine MGo_c0 rfl (by decide) (.run rfl (stp_fieldAddr_elp rfl fo_api_Term_2 rfl)) ?_
    first | refine MGo_c0 rfl (by decide) (.run rfl (stp_load rfl tf_int rfl rfl rfl rfl rfl)) ?_ | refine MGo_c0 rfl (by decide) (.run rfl (stp_load_elp1 rfl tf_int rfl)) ?_ | refine MGo_c0 rfl (by decide) (.run rfl (stp_load_elpn rfl tf_int rfl rfl rfl)) ?_
    first | refine MGo_c0 rfl (by decide) (.run rfl (stp_fieldAddr rfl fo_api_Term_2 rfl)) ?_ | refine MGo_c0 rfl (by decide) (.run rfl (stp_fieldAddr_elp rfl fo_api_Term_2 rfl)) ?_
    first | refine MGo_c0 rfl (by decide) (.run rfl (stp_load rfl tf_int rfl rfl rfl rfl rfl)) ?_ | refine MGo_c0 rfl (by decide) (.run rfl (stp_load_elp1 rfl tf_int rfl)) ?_ | refine MGo_c0 rfl (by decide) (.run rfl (stp_load_elpn rfl tf_int rfl rfl rfl)) ?_
    refine MGo_c0 rfl (by decide) (.run rfl (stp_call (avs := [_, _]) true rfl en_cmp_Compare_int rfl rfl (cmpInt_ok _ _) (fun _ => rfl) rfl)) ?_
    first | refine MGo_c0 rfl (by decide) (.run rfl (stp_fieldAddr rfl fo_api_Term_3 rfl)) ?_ | refine MGo_c0 rfl (by decide) (.run rfl (stp_fieldAddr_elp rfl fo_api_Term_3 rfl)) ?_
    first | refine MGo_c0 rfl (by decide) (.run rfl (stp_load rfl tf_S_api_Term rfl rfl rfl rfl rfl)) ?_ | refine MGo_c0 rfl (by decide) (.run rfl (stp_load_elp1 rfl tf_S_api_Term rfl)) ?_ | refine MGo_c0 rfl (by decide) (.run rfl (stp_load_elpn rfl tf_S_api_Term rfl rfl rfl)) ?_
    first | refine MGo_c0 rfl (by decide) (.run rfl (stp_len_dat rfl sl_S_api_Term rfl)) ?_ | refine MGo_c0 rfl (by decide) (.run rfl (stp_len_rowd rfl sl_S_api_Term rfl rfl)) ?_ | refine MGo_c0 rfl (by decide) (.run rfl (stp_len_nil rfl sl_S_api_Term rfl)) ?_ | refine MGo_c0 rfl (by decide) (.run rfl (stp_len_vw rfl sl_S_api_Term rfl)) ?_
    first | refine MGo_c0 rfl (by decide) (.run rfl (stp_fieldAddr rfl fo_api_Term_3 rfl)) ?_ | refine MGo_c0 rfl (by decide) (.run rfl (stp_fieldAddr_elp rfl fo_api_Term_3 rfl)) ?_
    first | refine MGo_c0 rfl (by decide) (.run rfl (stp_load rfl tf_S_api_Term rfl rfl rfl rfl rfl)) ?_ | refine MGo_c0 rfl (by decide) (.run rfl (stp_load_elp1 rfl tf_S_api_Term rfl)) ?_ | refine MGo_c0 rfl (by decide) (.run rfl (stp_load_elpn rfl tf_S_api_Term rfl rfl rfl)) ?_
    first | refine MGo_c0 rfl (by decide) (.run rfl (stp_len_dat rfl sl_S_api_Term rfl)) ?_ | refine MGo_c0 rfl (by decide) (.run rfl (stp_len_rowd rfl sl_S_api_Term rfl rfl)) ?_ | refine MGo_c0 rfl (by decide) (.run rfl (stp_len_nil rfl sl_S_api_Term rfl)) ?_ | refine MGo_c0 rfl (by decide) (.run rfl (stp_len_vw rfl sl_S_api_Term rfl)) ?_
    refine MGo_c0 rfl (by decide) (.run rfl (stp_call (avs := [_, _]) true rfl en_cmp_Compare_int rfl rfl (cmpInt_ok _ _) (fun _ => rfl) rfl)) ?_
    first | refine MGo_c0 rfl (by decide) (.run rfl (stp_fieldAddr rfl fo_api_Term_1 rfl)) ?_ | refine MGo_c0 rfl (by decide) (.run rfl (stp_fieldAddr_elp rfl fo_api_Term_1 rfl)) ?_
    first | refine MGo_c0 rfl (by decide) (.run rfl (stp_load rfl tf_string rfl rfl rfl rfl rfl)) ?_ | refine MGo_c0 rfl (by decide) (.run rfl (stp_load_elp1 rfl tf_string rfl)) ?_ | refine MGo_c0 rfl (by decide) (.run rfl (stp_load_elpn rfl tf_string rfl rfl rfl)) ?_
    first | refine MGo_c0 rfl (by decide) (.run rfl (stp_fieldAddr rfl fo_api_Term_1 rfl)) ?_ | refine MGo_c0 rfl (by decide) (.run rfl (stp_fieldAddr_elp rfl fo_api_Term_1 rfl)) ?_
    first | refine MGo_c0 rfl (by decide) (.run rfl (stp_load rfl tf_string rfl rfl rfl rfl rfl)) ?_ | refine MGo_c0 rfl (by decide) (.run rfl (stp_load_elp1 rfl tf_string rfl)) ?_ | refine MGo_c0 rfl (by decide) (.run rfl (stp_load_elpn rfl tf_string rfl rfl rfl)) ?_
    refine MGo_nil ⟨rfl, rfl, ?_⟩; refine awps_call (avs := [_, _]) true rfl rfl rfl (by decide) en_strings_Compare rfl rfl (stringsCompare_ok _ _) rfl rfl ?_; refine awps_stp1 rfl rfl (by decide) (stp_buildSlice 28 rfl sl_S_int zv_int rfl rfl (by decide) (by decide) (by decide) rfl rfl rfl) rfl ?_; refine awps_rowd 28 false 4 rfl rfl rfl rfl ?_
    refine awps_call (avs := [_]) true rfl rfl rfl (by decide) en_cmp_Or_int rfl rfl (cmpOr_ok [cmpI a.kind b.kind, cmpI a.n b.n, cmpI (tmDs a.args).length (tmDs b.args).length, cmpS a.name b.name] (by simp)) rfl rfl ?_; refine awps_stp0 rfl rfl (by decide) (stp_move (.inr rfl) rfl) ?_; refine awps_nil ?_; refine thenQ_nil ?_; refine awp_seq ?_; refine awp_region ?_
    refine awps_stp0 rfl rfl (by decide) (stp_move (.inl rfl) rfl) ?_; refine awps_stp0 rfl rfl (by decide) (stp_binI rfl rfl rfl rfl) ?_; refine awps_nil ?_; refine thenQ_nil ?_; refine awp_cond rfl (fun c0 => ?_) (fun c0 => ?_)
    · try simp only [↓cqA, cqB] at c0
      refine awp_seq ?_; refine awp_region ?_; refine awps_stp0 rfl rfl (by decide) (stp_move (.inl rfl) rfl) ?_; refine awps_stp0 rfl rfl (by decide) (stp_move (.inr rfl) rfl) ?_; refine awps_nil ?_; refine thenQ_nil ?_; refine awp_ret ?_; refine thenQ_ret (?_)
      -- leaf 0T
      refine ret0 (noL hL) (.inl rfl) (resAs_tmp rfl (resAs_nil)) ?_ ?_
      · rfl
      refine ⟨int_w ?_, rfl⟩
      rw [hla, hlb] at c0
      rw [cmpT]
      try rw [hla, hlb]
      first | rw [if_pos (by simpa using c0)] | rw [if_neg (by simpa using c0)]
    try simp only [↓cqA, cqB] at c0
    refine awp_skip ?_; refine thenQ_nil ?_; refine awp_seq ?_; refine awp_region ?_
    first | refine awps_stp0 rfl rfl (by decide) (stp_fieldAddr rfl fo_api_Term_3 rfl) ?_ | refine awps_stp0 rfl rfl (by decide) (stp_fieldAddr_elp rfl fo_api_Term_3 rfl) ?_
    first | refine awps_stp0 rfl rfl (by decide) (stp_load rfl tf_S_api_Term rfl rfl rfl rfl rfl) ?_ | refine awps_stp0 rfl rfl (by decide) (stp_load_elp1 rfl tf_S_api_Term rfl) ?_ | refine awps_stp0 rfl rfl (by decide) (stp_load_elpn rfl tf_S_api_Term rfl rfl rfl) ?_
    first | refine awps_stp0 rfl rfl (by decide) (stp_fieldAddr rfl fo_api_Term_3 rfl) ?_ | refine awps_stp0 rfl rfl (by decide) (stp_fieldAddr_elp rfl fo_api_Term_3 rfl) ?_
    first | refine awps_stp0 rfl rfl (by decide) (stp_load rfl tf_S_api_Term rfl rfl rfl rfl rfl) ?_ | refine awps_stp0 rfl rfl (by decide) (stp_load_elp1 rfl tf_S_api_Term rfl) ?_ | refine awps_stp0 rfl rfl (by decide) (stp_load_elpn rfl tf_S_api_Term rfl rfl rfl) ?_
    refine awps_call (avs := [_, _, _]) true rfl rfl rfl (by decide) en_slices_CompareFunc_api_Term_api_Term_api_Term_api_Term rfl rfl (CompareFunc_ok a.args b.args (by omega) (by omega) (cmpT d) _ en_term_Compare (fun u v hu hv => Compare_ok d u v (h u hu) (Tm.wfs_mem ha.2.2.2.2 hu) (Tm.wfs_mem hb.2.2.2.2 hv))) rfl rfl ?_; refine awps_stp0 rfl rfl (by decide) (stp_move (.inr rfl) rfl) ?_
    refine awps_nil ?_; refine thenQ_nil ?_; refine awp_ret ?_
    -- leaf 0F
    refine ret0 (noL hL) (.inl rfl) (resAs_tmp rfl (resAs_nil)) ?_ ?_
    · rfl
    refine ⟨int_w ?_, rfl⟩
    rw [hla, hlb] at c0
    rw [cmpT]
    try rw [hla, hlb]
    first | rw [if_pos (by simpa using c0)] | rw [if_neg (by simpa using c0)]
end Go.Proofs.YtdecgkhdbfgldaaGreat

namespace Go.Proofs
open Go.Shelf
def Tryz.keys155_ren : Go.Shelf.Ren := ⟨fun | 7 => 155 | 10 => 212 | n => n, fun | 23 => 173 | 26 => 9 | 3 => 4 | 28 => 177 | 0 => 0 | 27 => 176 | 33 => 123 | 4 => 4 | n => n, fun | n => n⟩
theorem Tryz.keys155 : Go.Proofs.SlLaysZ.n7 Tryz.prog Tryz.keys155_ren := {
  mixed := by kernel_rfl
  f7 := ⟨Tryz.f155.name, by decide, Tryz.func155.trans (congrArg some (by kernel_rfl))⟩
  f10 := ⟨Tryz.f212.name, by decide, Tryz.func212.trans (congrArg some (by kernel_rfl))⟩
  t0 := Tryz.underlying0
  a0 := Tryz.isAgg0
  z0 := Tryz.sizeOf0
  v0 := Tryz.zeroValue0
  t4 := Tryz.underlying4
  a4 := Tryz.isAgg4
  z4 := Tryz.sizeOf4
  v4 := Tryz.zeroValue4
  t23 := Tryz.underlying173
  a23 := Tryz.isAgg173
  z23 := Tryz.sizeOf173
  v23 := Tryz.zeroValue173
  t26 := Tryz.underlying9
  a26 := Tryz.isAgg9
  z26 := Tryz.sizeOf9
  v26 := Tryz.zeroValue9
  t27 := Tryz.underlying176
  a27 := Tryz.isAgg176
  z27 := Tryz.sizeOf176
  v27 := Tryz.zeroValue176
  t28 := Tryz.underlying177
  a28 := Tryz.isAgg177
  z28 := Tryz.sizeOf177
  v28 := Tryz.zeroValue177
  t33 := Tryz.underlying123
  a33 := Tryz.isAgg123
  z33 := Tryz.sizeOf123
  v33 := Tryz.zeroValue123 }
def Tryz.sorted154_ren : Go.Shelf.Ren := ⟨fun | 6 => 154 | 8 => 210 | 9 => 211 | 11 => 255 | 13 => 182 | 12 => 256 | 23 => 233 | 24 => 234 | 14 => 273 | 15 => 274 | 16 => 275 | 17 => 276 | 18 => 277 | 19 => 278 | 20 => 279 | 21 => 280 | 22 => 281 | 25 => 287 | 26 => 263 | 27 => 264 | 28 => 288 | 29 => 289 | 30 => 290 | 31 => 291 | n => n, fun | 26 => 9 | 28 => 177 | 24 => 24 | 0 => 0 | 3 => 3 | 37 => 159 | 48 => 235 | 50 => 237 | 4 => 4 | 40 => 229 | 39 => 228 | 45 => 127 | 5 => 5 | 9 => 9 | 51 => 256 | 55 => 168 | 57 => 272 | 58 => 273 | 33 => 123 | n => n, fun | n => n⟩
theorem Tryz.sorted154 : Go.Proofs.SlLaysZ.n6 Tryz.prog Tryz.sorted154_ren := {
  mixed := by kernel_rfl
  f6 := ⟨Tryz.f154.name, by decide, Tryz.func154.trans (congrArg some (by kernel_rfl))⟩
  f8 := ⟨Tryz.f210.name, by decide, Tryz.func210.trans (congrArg some (by kernel_rfl))⟩
  f11 := ⟨Tryz.f255.name, by decide, Tryz.func255.trans (congrArg some (by kernel_rfl))⟩
  t0 := Tryz.underlying0
  a0 := Tryz.isAgg0
  z0 := Tryz.sizeOf0
  v0 := Tryz.zeroValue0
  t24 := Tryz.underlying24
  a24 := Tryz.isAgg24
  z24 := Tryz.sizeOf24
  v24 := Tryz.zeroValue24
  t26 := Tryz.underlying9
  a26 := Tryz.isAgg9
  z26 := Tryz.sizeOf9
  v26 := Tryz.zeroValue9
  t28 := Tryz.underlying177
  a28 := Tryz.isAgg177
  z28 := Tryz.sizeOf177
  v28 := Tryz.zeroValue177
  i26 := by kernel_rfl }
def Tryz.sort211_ren : Go.Shelf.Ren := ⟨fun | 6 => 211 | 8 => 182 | 9 => 256 | 19 => 233 | 20 => 234 | 21 => 273 | 22 => 274 | 23 => 275 | 24 => 276 | 25 => 277 | 26 => 278 | 27 => 279 | 28 => 280 | 29 => 281 | 36 => 287 | 31 => 263 | 32 => 264 | 37 => 288 | 38 => 289 | 39 => 290 | 41 => 291 | n => n, fun | 27 => 24 | 29 => 9 | 3 => 3 | 32 => 159 | 26 => 24 | 0 => 0 | 44 => 235 | 46 => 237 | 4 => 4 | 36 => 229 | 35 => 228 | 41 => 127 | 5 => 5 | 9 => 9 | 53 => 256 | 57 => 168 | 63 => 272 | 64 => 273 | n => n, fun | n => n⟩
theorem Tryz.sort211 : Go.Proofs.SlLaysM.n6 Tryz.prog Tryz.sort211_ren := {
  mixed := by kernel_rfl
  f6 := ⟨Tryz.f211.name, by decide, Tryz.func211.trans (congrArg some (by kernel_rfl))⟩
  f8 := Tryz.func182.trans (congrArg some (by kernel_rfl))
  f9 := ⟨Tryz.f256.name, by decide, Tryz.func256.trans (congrArg some (by kernel_rfl))⟩
  f19 := Tryz.func233.trans (congrArg some (by kernel_rfl))
  f20 := Tryz.func234.trans (congrArg some (by kernel_rfl))
  f21 := ⟨Tryz.f273.name, by decide, Tryz.func273.trans (congrArg some (by kernel_rfl))⟩
  f22 := ⟨Tryz.f274.name, by decide, Tryz.func274.trans (congrArg some (by kernel_rfl))⟩
  f23 := ⟨Tryz.f275.name, by decide, Tryz.func275.trans (congrArg some (by kernel_rfl))⟩
  f24 := ⟨Tryz.f276.name, by decide, Tryz.func276.trans (congrArg some (by kernel_rfl))⟩
  f25 := ⟨Tryz.f277.name, by decide, Tryz.func277.trans (congrArg some (by kernel_rfl))⟩
  f26 := ⟨Tryz.f278.name, by decide, Tryz.func278.trans (congrArg some (by kernel_rfl))⟩
  f27 := ⟨Tryz.f279.name, by decide, Tryz.func279.trans (congrArg some (by kernel_rfl))⟩
  f28 := ⟨Tryz.f280.name, by decide, Tryz.func280.trans (congrArg some (by kernel_rfl))⟩
  f29 := ⟨Tryz.f281.name, by decide, Tryz.func281.trans (congrArg some (by kernel_rfl))⟩
  f31 := Tryz.func263.trans (congrArg some (by kernel_rfl))
  f32 := Tryz.func264.trans (congrArg some (by kernel_rfl))
  f36 := ⟨Tryz.f287.name, by decide, Tryz.func287.trans (congrArg some (by kernel_rfl))⟩
  f37 := ⟨Tryz.f288.name, by decide, Tryz.func288.trans (congrArg some (by kernel_rfl))⟩
  f38 := ⟨Tryz.f289.name, by decide, Tryz.func289.trans (congrArg some (by kernel_rfl))⟩
  f39 := ⟨Tryz.f290.name, by decide, Tryz.func290.trans (congrArg some (by kernel_rfl))⟩
  f41 := ⟨Tryz.f291.name, by decide, Tryz.func291.trans (congrArg some (by kernel_rfl))⟩
  t0 := Tryz.underlying0
  a0 := Tryz.isAgg0
  z0 := Tryz.sizeOf0
  v0 := Tryz.zeroValue0
  t3 := Tryz.underlying3
  a3 := Tryz.isAgg3
  z3 := Tryz.sizeOf3
  v3 := Tryz.zeroValue3
  t4 := Tryz.underlying4
  a4 := Tryz.isAgg4
  z4 := Tryz.sizeOf4
  v4 := Tryz.zeroValue4
  t5 := Tryz.underlying5
  a5 := Tryz.isAgg5
  z5 := Tryz.sizeOf5
  v5 := Tryz.zeroValue5
  t9 := Tryz.underlying9
  a9 := Tryz.isAgg9
  z9 := Tryz.sizeOf9
  v9 := Tryz.zeroValue9
  t26 := Tryz.underlying24
  a26 := Tryz.isAgg24
  z26 := Tryz.sizeOf24
  v26 := Tryz.zeroValue24
  t27 := Tryz.underlying24
  a27 := Tryz.isAgg24
  z27 := Tryz.sizeOf24
  v27 := Tryz.zeroValue24
  t29 := Tryz.underlying9
  a29 := Tryz.isAgg9
  z29 := Tryz.sizeOf9
  v29 := Tryz.zeroValue9
  t32 := Tryz.underlying159
  a32 := Tryz.isAgg159
  z32 := Tryz.sizeOf159
  v32 := Tryz.zeroValue159
  t35 := Tryz.underlying228
  a35 := Tryz.isAgg228
  z35 := Tryz.sizeOf228
  v35 := Tryz.zeroValue228
  t36 := Tryz.underlying229
  a36 := Tryz.isAgg229
  z36 := Tryz.sizeOf229
  v36 := Tryz.zeroValue229
  t41 := Tryz.underlying127
  a41 := Tryz.isAgg127
  z41 := Tryz.sizeOf127
  v41 := Tryz.zeroValue127
  t44 := Tryz.underlying235
  a44 := Tryz.isAgg235
  z44 := Tryz.sizeOf235
  v44 := Tryz.zeroValue235
  t46 := Tryz.underlying237
  a46 := Tryz.isAgg237
  z46 := Tryz.sizeOf237
  v46 := Tryz.zeroValue237
  t53 := Tryz.underlying256
  a53 := Tryz.isAgg256
  z53 := Tryz.sizeOf256
  v53 := Tryz.zeroValue256
  t57 := Tryz.underlying168
  a57 := Tryz.isAgg168
  z57 := Tryz.sizeOf168
  v57 := Tryz.zeroValue168
  t63 := Tryz.underlying272
  a63 := Tryz.isAgg272
  z63 := Tryz.sizeOf272
  v63 := Tryz.zeroValue272
  t64 := Tryz.underlying273
  a64 := Tryz.isAgg273
  z64 := Tryz.sizeOf273
  v64 := Tryz.zeroValue273 }
end Go.Proofs
namespace Go.Proofs
open Go.RowKit Go.Maps Go.Sort Go.Shelf
theorem Tryz.sorts154 (m : Nat) : AnyZ.SortsIn Tryz.prog Tryz.sorted154_ren Fence.wide m :=
  ⟨fun blk off cap ss W hH hblk hsz => callsIn_wide.2 (AnyM.slices_Sort_string Tryz.sort211 blk off cap ss W hH hblk hsz),
   fun p cap W => callsIn_wide.2 (AnyM.slices_Sort_string_none Tryz.sort211 p cap W)⟩
end Go.Proofs

set_option linter.unusedVariables false
set_option linter.unusedSimpArgs false
set_option maxRecDepth 8000
namespace Go.Proofs.YtdecgkhdbfgldaaGreat
open Go Go.Maps Go.Sort Go.Shelf Go.RowKit
def litS (ss : List ByteArray) : List Lit := ss.map fun s => .string s.data.toList
theorem litS_mem {ss : List ByteArray} {s : ByteArray} : Lit.string s.data.toList ∈ litS ss ↔ s ∈ ss := by
  simp only [litS, List.mem_map, Lit.string.injEq]
  constructor
  · rintro ⟨u, hu, e⟩
    have : u = s := by cases u; cases s; congr 1; exact Array.toList_inj.1 e
    rw [← this]; exact hu
  · intro h; exact ⟨s, h, rfl⟩
theorem litS_length (ss : List ByteArray) : (litS ss).length = ss.length := by simp [litS]
noncomputable abbrev mpS (ss : List ByteArray) : Ob := .mp Tryz.prog 9 (litS ss)
def noteS : Nat → Tm → List ByteArray → List ByteArray
  | 0, _, ss => ss
  | d + 1, t, ss => t.args.foldl (fun s u => noteS d u s) (if t.kind = 1 then t.name :: ss else ss)
def nodes : Nat → Tm → Nat
  | 0, _ => 0
  | d + 1, t => 1 + (t.args.map (nodes d)).sum
theorem noteS_len : ∀ (d : Nat) (t : Tm) (ss : List ByteArray), (noteS d t ss).length ≤ ss.length + nodes d t
  | 0, t, ss => by simp [noteS, nodes]
  | d + 1, t, ss => by
    have key : ∀ (l : List Tm) (ss : List ByteArray), (l.foldl (fun s u => noteS d u s) ss).length ≤ ss.length + (l.map (nodes d)).sum := fun l => by
      induction l with
      | nil => intro ss; simp
      | cons a l ih =>
        intro ss
        have h1 := ih (noteS d a ss)
        have h2 := noteS_len d a ss
        simp only [List.foldl_cons, List.map_cons, List.sum_cons]; omega
    simp only [noteS, nodes]
    have := key t.args (if t.kind = 1 then t.name :: ss else ss)
    have h3 : (if t.kind = 1 then t.name :: ss else ss).length ≤ ss.length + 1 := by split <;> simp
    omega
theorem noteL_len (d : Nat) : ∀ (l : List Tm) (ss : List ByteArray), (l.foldl (fun s u => noteS d u s) ss).length ≤ ss.length + (l.map (nodes d)).sum
  | [], ss => by simp
  | a :: l, ss => by
    have h1 := noteL_len d l (noteS d a ss)
    have h2 := noteS_len d a ss
    simp only [List.foldl_cons, List.map_cons, List.sum_cons]; omega
theorem sum_split {l : List Tm} {k : Nat} {u : Tm} (f : Tm → Nat) (h : l[k]? = some u) : ((l.take k).map f).sum + f u ≤ (l.map f).sum := by
  have h2 := List.getElem?_eq_some_iff.1 h
  have : l = l.take k ++ l.drop k := (List.take_append_drop k l).symm
  rw [List.drop_eq_getElem_cons h2.1, h2.2] at this
  have h3 := congrArg (fun l => (l.map f).sum) this
  simp only [List.map_append, List.sum_append, List.map_cons, List.sum_cons] at h3
  omega
theorem Note_ok : ∀ (d : Nat) (t : Tm) (ss : List ByteArray), dle d t → t.wf → ss.length + nodes d t ≤ 1000000 → AC Tryz.prog 153 [tmA false t, .map 0] [(0, mpS ss)] (fun r O => r = .tup [] ∧ O = [(0, mpS (noteS d t ss))])
  | 0, t, ss, h, _, _ => h.elim
  | d + 1, t, ss, h, ht, hn => by
    have hal := ht.2.2.2.1
    have hnm := ht.2.1
    have hlen := tmDs_length t.args
    have hmx : maxLen = 9223372036854775807 := rfl
    simp only [nodes] at hn
    refine AC_intro Tryz.func153 rfl Tryz.ntmps153 (Nat.le_of_ble_eq_true rfl) fun c hL hQ hDD => ?_; refine awp_seq ?_; refine awp_region ?_; refine awps_stp1 rfl rfl (by decide) (stp_box 2 rfl rfl rfl) rfl ?_; refine awps_nil ?_; refine thenQ_nil ?_; refine awp_seq ?_; refine awp_seq ?_; refine awp_region ?_
    first | refine awps_stp0 rfl rfl (by decide) (stp_fieldAddr rfl fo_api_Term_0 rfl) ?_ | refine awps_stp0 rfl rfl (by decide) (stp_fieldAddr_elp rfl fo_api_Term_0 rfl) ?_
    first | refine awps_stp0 rfl rfl (by decide) (stp_load rfl tf_int rfl rfl rfl rfl rfl) ?_ | refine awps_stp0 rfl rfl (by decide) (stp_load_elp1 rfl tf_int rfl) ?_ | refine awps_stp0 rfl rfl (by decide) (stp_load_elpn rfl tf_int rfl rfl rfl) ?_
    refine awps_stp0 rfl rfl (by decide) (stp_binI rfl rfl rfl rfl) ?_; refine awps_nil ?_; refine thenQ_nil ?_; refine awp_cond rfl (fun c0 => ?_) (fun c0 => ?_)
    · try simp only [↓cqA, cqB] at c0
      refine awp_region ?_; refine awps_stp0 rfl rfl (by decide) (stp_move (.inl rfl) rfl) ?_
      first | refine awps_stp0 rfl rfl (by decide) (stp_fieldAddr rfl fo_api_Term_1 rfl) ?_ | refine awps_stp0 rfl rfl (by decide) (stp_fieldAddr_elp rfl fo_api_Term_1 rfl) ?_
      first | refine awps_stp0 rfl rfl (by decide) (stp_load rfl tf_string rfl rfl rfl rfl rfl) ?_ | refine awps_stp0 rfl rfl (by decide) (stp_load_elp1 rfl tf_string rfl) ?_ | refine awps_stp0 rfl rfl (by decide) (stp_load_elpn rfl tf_string rfl rfl rfl) ?_
      refine awps_mapSet rfl rfl rfl um_map_string_bool rfl rfl rfl rfl rfl (Go.WideMaps.keyOf_string_mk ul_string (by omega)) (by rw [litS_length]; omega) ?_; refine awps_nil ?_; refine thenQ_nil ?_; refine awp_seq ?_; refine awp_region ?_
      first | refine awps_stp0 rfl rfl (by decide) (stp_fieldAddr rfl fo_api_Term_3 rfl) ?_ | refine awps_stp0 rfl rfl (by decide) (stp_fieldAddr_elp rfl fo_api_Term_3 rfl) ?_
      first | refine awps_stp0 rfl rfl (by decide) (stp_load rfl tf_S_api_Term rfl rfl rfl rfl rfl) ?_ | refine awps_stp0 rfl rfl (by decide) (stp_load_elp1 rfl tf_S_api_Term rfl) ?_ | refine awps_stp0 rfl rfl (by decide) (stp_load_elpn rfl tf_S_api_Term rfl rfl rfl) ?_
      first | refine awps_stp0 rfl rfl (by decide) (stp_len_dat rfl sl_S_api_Term rfl) ?_ | refine awps_stp0 rfl rfl (by decide) (stp_len_rowd rfl sl_S_api_Term rfl rfl) ?_ | refine awps_stp0 rfl rfl (by decide) (stp_len_nil rfl sl_S_api_Term rfl) ?_ | refine awps_stp0 rfl rfl (by decide) (stp_len_vw rfl sl_S_api_Term rfl) ?_
      refine awps_stp0 rfl rfl (by decide) (stp_move (.inl rfl) rfl) ?_; refine awps_nil ?_; refine thenQ_nil ?_; refine awp_block ?_
      refine awp_while (t.args.length) (fun k => k ≤ t.args.length) (fun k => ⟨[(1, .map 0), (13, .dat false 4 (tmDs t.args)), (14, iv (tmDs t.args).length), (15, iv (k : Int))], [(0, mpS ((t.args.take k).foldl (fun s u => noteS d u s) (if t.kind = 1 then t.name :: ss else ss)))]⟩) (by omega) ?_ (fun k hk hp => ?_)
      · exact sub_re (SubT.cons (lk_eq rfl (by first | rfl | simp)) (SubT.cons (lk_eq rfl (by first | rfl | simp)) (SubT.cons (lk_eq rfl (by first | rfl | simp)) (SubT.cons (lk_eq rfl (by first | rfl | simp)) (SubT.nil))))) (SubO.cons (ok_eq rfl (by simp [c0, litS])) (SubO.nil)) rfl rfl (LO hL rfl)
      refine awp_seq ?_; refine awp_region ?_; refine awps_stp0 rfl rfl (by decide) (stp_binI rfl rfl rfl rfl) ?_; refine awps_nil ?_; refine thenQ_nil ?_; refine awp_seq ?_; refine awp_cond rfl (fun c1 => ?_) (fun c1 => ?_)
      · try simp only [↓cqA, cqB] at c1
        obtain ⟨u, hu⟩ := get_of_lt (l := t.args) (k := k) (by omega)
        have hum := List.mem_of_getElem? hu
        have hs1 := noteL_len d (t.args.take k) (if t.kind = 1 then t.name :: ss else ss)
        have hs2 := sum_split (nodes d) hu
        have hs3 : (if t.kind = 1 then t.name :: ss else ss).length ≤ ss.length + 1 := by split <;> simp
        refine awp_skip ?_; refine thenQ_nil ?_; refine awp_seq ?_; refine awp_block ?_; refine awp_seq ?_; refine awp_region ?_
        first | refine awps_stp0 rfl rfl (by decide) (stp_indexAddr rfl sl_S_api_Term rfl rfl (by omega) (tmDs_get hu)) ?_ | refine awps_stp0 rfl rfl (by decide) (stp_indexAddr_rowd rfl sl_S_api_Term rfl rfl rfl (by omega) (tmDs_get hu)) ?_ | refine awps_stp0 rfl rfl (by decide) (stp_indexAddr_row rfl sl_S_api_Term rfl rfl rfl (by omega) (tmDs_get hu) (by decide)) ?_
        first | refine awps_stp0 rfl rfl (by decide) (stp_load_all rfl tf_api_Term rfl rfl rfl rfl) ?_ | refine awps_stp0 rfl rfl (by decide) (stp_load rfl tf_api_Term rfl rfl rfl rfl rfl) ?_ | refine awps_stp0 rfl rfl (by decide) (stp_load_elpa rfl tf_api_Term rfl rfl) ?_ | refine awps_stp0 rfl rfl (by decide) (stp_load_elpn rfl tf_api_Term rfl rfl rfl) ?_
        refine awps_stp1 rfl rfl (by decide) (stp_alloc 5 rfl zv_api_Term rfl) rfl ?_; refine awps_store rfl rfl rfl tf_api_Term rfl rfl rfl rfl rfl rfl rfl rfl rfl ?_; refine awps_nil ?_; refine thenQ_nil ?_; refine awp_region ?_
        first | refine awps_stp0 rfl rfl (by decide) (stp_load_all rfl tf_api_Term rfl rfl rfl rfl) ?_ | refine awps_stp0 rfl rfl (by decide) (stp_load rfl tf_api_Term rfl rfl rfl rfl rfl) ?_ | refine awps_stp0 rfl rfl (by decide) (stp_load_elpa rfl tf_api_Term rfl rfl) ?_ | refine awps_stp0 rfl rfl (by decide) (stp_load_elpn rfl tf_api_Term rfl rfl rfl) ?_
        refine awps_stp0 rfl rfl (by decide) (stp_move (.inl rfl) rfl) ?_
        refine awps_callP (avs := [_, _]) true rfl rfl rfl (by decide) en_term_Note rfl rfl (Note_ok d u _ (h u hum) (Tm.wfs_mem ht.2.2.2.2 hum) (by omega)) (rfl) (passO (.cons rfl trivial rfl .nil)) (by rintro r O' ⟨rfl, rfl⟩ l hl; exact .inl ((inD_dom (by rfl) l).trans hl)) (by rintro - r O' ⟨rfl, rfl⟩; exact ⟨rfl, rfl⟩) ?_
        rintro r O' ⟨rfl, rfl⟩
        refine awps_nil ?_; refine inQ_nil ?_; refine thenQ_nil ?_; refine awp_region ?_; refine awps_stp0 rfl rfl (by decide) (stp_add rfl rfl rfl (by omega)) ?_; refine awps_stp0 rfl rfl (by decide) (stp_move (.inl rfl) rfl) ?_; refine awps_nil ?_; refine thenQ_nil ?_; refine ⟨?_, ?_, ?_⟩
        · skip
          omega
        · skip
          omega
        exact sub_re (SubT.cons (lk_eq rfl (by first | rfl | simp)) (SubT.cons (lk_eq rfl (by first | rfl | simp)) (SubT.cons (lk_eq rfl (by first | rfl | simp)) (SubT.cons (lk_eq rfl (by first | rfl | simp)) (SubT.nil))))) (SubO.cons (ok_eq rfl (by rw [take_snoc hu, List.foldl_append]; rfl)) (SubO.nil)) rfl rfl (LO hL rfl)
      try simp only [↓cqA, cqB] at c1
      refine awp_exit ?_; refine thenQ_exit (thenQ_exit (inQ_hit ?_))
      -- leaf 0T1F
      change retQ _ _ _ _ _ _ _
      refine retO (O' := [(0, _)]) (.inr rfl) resAs_nil (SubO.cons rfl SubO.nil) ?_ ?_ ?_ ?_
      · rfl
      · rfl
      · exact LO hL rfl
      exact ⟨rfl, by rw [noteS, List.take_of_length_le (by omega)]⟩
    try simp only [↓cqA, cqB] at c0
    refine awp_skip ?_; refine thenQ_nil ?_; refine awp_seq ?_; refine awp_region ?_
    first | refine awps_stp0 rfl rfl (by decide) (stp_fieldAddr rfl fo_api_Term_3 rfl) ?_ | refine awps_stp0 rfl rfl (by decide) (stp_fieldAddr_elp rfl fo_api_Term_3 rfl) ?_
    first | refine awps_stp0 rfl rfl (by decide) (stp_load rfl tf_S_api_Term rfl rfl rfl rfl rfl) ?_ | refine awps_stp0 rfl rfl (by decide) (stp_load_elp1 rfl tf_S_api_Term rfl) ?_ | refine awps_stp0 rfl rfl (by decide) (stp_load_elpn rfl tf_S_api_Term rfl rfl rfl) ?_
    first | refine awps_stp0 rfl rfl (by decide) (stp_len_dat rfl sl_S_api_Term rfl) ?_ | refine awps_stp0 rfl rfl (by decide) (stp_len_rowd rfl sl_S_api_Term rfl rfl) ?_ | refine awps_stp0 rfl rfl (by decide) (stp_len_nil rfl sl_S_api_Term rfl) ?_ | refine awps_stp0 rfl rfl (by decide) (stp_len_vw rfl sl_S_api_Term rfl) ?_
    refine awps_stp0 rfl rfl (by decide) (stp_move (.inl rfl) rfl) ?_; refine awps_nil ?_; refine thenQ_nil ?_; refine awp_block ?_
    refine awp_while (t.args.length) (fun k => k ≤ t.args.length) (fun k => ⟨[(1, .map 0), (13, .dat false 4 (tmDs t.args)), (14, iv (tmDs t.args).length), (15, iv (k : Int))], [(0, mpS ((t.args.take k).foldl (fun s u => noteS d u s) (if t.kind = 1 then t.name :: ss else ss)))]⟩) (by omega) ?_ (fun k hk hp => ?_)
    · exact sub_re (SubT.cons (lk_eq rfl (by first | rfl | simp)) (SubT.cons (lk_eq rfl (by first | rfl | simp)) (SubT.cons (lk_eq rfl (by first | rfl | simp)) (SubT.cons (lk_eq rfl (by first | rfl | simp)) (SubT.nil))))) (SubO.cons (ok_eq rfl (by simp [c0, litS])) (SubO.nil)) rfl rfl (LO hL rfl)
    refine awp_seq ?_; refine awp_region ?_; refine awps_stp0 rfl rfl (by decide) (stp_binI rfl rfl rfl rfl) ?_; refine awps_nil ?_; refine thenQ_nil ?_; refine awp_seq ?_; refine awp_cond rfl (fun c1 => ?_) (fun c1 => ?_)
    · try simp only [↓cqA, cqB] at c1
      obtain ⟨u, hu⟩ := get_of_lt (l := t.args) (k := k) (by omega)
      have hum := List.mem_of_getElem? hu
      have hs1 := noteL_len d (t.args.take k) (if t.kind = 1 then t.name :: ss else ss)
      have hs2 := sum_split (nodes d) hu
      have hs3 : (if t.kind = 1 then t.name :: ss else ss).length ≤ ss.length + 1 := by split <;> simp
      refine awp_skip ?_; refine thenQ_nil ?_; refine awp_seq ?_; refine awp_block ?_; refine awp_seq ?_; refine awp_region ?_
      first | refine awps_stp0 rfl rfl (by decide) (stp_indexAddr rfl sl_S_api_Term rfl rfl (by omega) (tmDs_get hu)) ?_ | refine awps_stp0 rfl rfl (by decide) (stp_indexAddr_rowd rfl sl_S_api_Term rfl rfl rfl (by omega) (tmDs_get hu)) ?_ | refine awps_stp0 rfl rfl (by decide) (stp_indexAddr_row rfl sl_S_api_Term rfl rfl rfl (by omega) (tmDs_get hu) (by decide)) ?_
      first | refine awps_stp0 rfl rfl (by decide) (stp_load_all rfl tf_api_Term rfl rfl rfl rfl) ?_ | refine awps_stp0 rfl rfl (by decide) (stp_load rfl tf_api_Term rfl rfl rfl rfl rfl) ?_ | refine awps_stp0 rfl rfl (by decide) (stp_load_elpa rfl tf_api_Term rfl rfl) ?_ | refine awps_stp0 rfl rfl (by decide) (stp_load_elpn rfl tf_api_Term rfl rfl rfl) ?_
      refine awps_stp1 rfl rfl (by decide) (stp_alloc 5 rfl zv_api_Term rfl) rfl ?_; refine awps_store rfl rfl rfl tf_api_Term rfl rfl rfl rfl rfl rfl rfl rfl rfl ?_; refine awps_nil ?_; refine thenQ_nil ?_; refine awp_region ?_
      first | refine awps_stp0 rfl rfl (by decide) (stp_load_all rfl tf_api_Term rfl rfl rfl rfl) ?_ | refine awps_stp0 rfl rfl (by decide) (stp_load rfl tf_api_Term rfl rfl rfl rfl rfl) ?_ | refine awps_stp0 rfl rfl (by decide) (stp_load_elpa rfl tf_api_Term rfl rfl) ?_ | refine awps_stp0 rfl rfl (by decide) (stp_load_elpn rfl tf_api_Term rfl rfl rfl) ?_
      refine awps_stp0 rfl rfl (by decide) (stp_move (.inl rfl) rfl) ?_; refine awps_callP (avs := [_, _]) true rfl rfl rfl (by decide) en_term_Note rfl rfl (Note_ok d u _ (h u hum) (Tm.wfs_mem ht.2.2.2.2 hum) (by omega)) (rfl) (passO (.cons rfl trivial rfl .nil)) (by rintro r O' ⟨rfl, rfl⟩ l hl; exact .inl ((inD_dom (by rfl) l).trans hl)) (by rintro - r O' ⟨rfl, rfl⟩; exact ⟨rfl, rfl⟩) ?_
      rintro r O' ⟨rfl, rfl⟩
      refine awps_nil ?_; refine inQ_nil ?_; refine thenQ_nil ?_; refine awp_region ?_; refine awps_stp0 rfl rfl (by decide) (stp_add rfl rfl rfl (by omega)) ?_; refine awps_stp0 rfl rfl (by decide) (stp_move (.inl rfl) rfl) ?_; refine awps_nil ?_; refine thenQ_nil ?_; refine ⟨?_, ?_, ?_⟩
      · skip
        omega
      · skip
        omega
      exact sub_re (SubT.cons (lk_eq rfl (by first | rfl | simp)) (SubT.cons (lk_eq rfl (by first | rfl | simp)) (SubT.cons (lk_eq rfl (by first | rfl | simp)) (SubT.cons (lk_eq rfl (by first | rfl | simp)) (SubT.nil))))) (SubO.cons (ok_eq rfl (by rw [take_snoc hu, List.foldl_append]; rfl)) (SubO.nil)) rfl rfl (LO hL rfl)
    try simp only [↓cqA, cqB] at c1
    refine awp_exit ?_; refine thenQ_exit (thenQ_exit (inQ_hit ?_))
    -- leaf 0F1F
    change retQ _ _ _ _ _ _ _
    refine retO (O' := [(0, _)]) (.inr rfl) resAs_nil (SubO.cons rfl SubO.nil) ?_ ?_ ?_ ?_
    · rfl
    · rfl
    · exact LO hL rfl
    exact ⟨rfl, by rw [noteS, List.take_of_length_le (by omega)]⟩
theorem Keys_ok (ss : List ByteArray) : AC Tryz.prog 155 [.map 0] [(0, mpS ss)] (fun r O => r = .fn 212 [.ptr 1 0] ∧ O = [(1, .box [.map 0]), (0, mpS ss)]) := by
  refine AC_intro Tryz.func155 rfl Tryz.ntmps155 (Nat.le_of_ble_eq_true rfl) fun c hL hQ hDD => ?_; refine awp_seq ?_; refine awp_region ?_; refine awps_stp1 rfl rfl (by decide) (stp_box 1 rfl rfl rfl) rfl ?_; refine awps_stp0 rfl rfl (by decide) (stp_move (.inr rfl) rfl) ?_; refine awps_nil ?_; refine thenQ_nil ?_; refine awp_seq ?_; refine awp_region ?_
  refine awps_stp0 rfl rfl (by decide) (stp_makeFunc (vs := [_]) rfl rfl) ?_; refine awps_stp0 rfl rfl (by decide) (stp_move (.inr rfl) rfl) ?_; refine awps_nil ?_; refine thenQ_nil ?_; refine awp_ret ?_
  -- leaf 
  change retQ _ _ _ _ _ _ _
  refine retO (O' := [(1, _), (0, _)]) (.inl rfl) (resAs_tmp rfl resAs_nil) (SubO.cons rfl (SubO.cons rfl SubO.nil)) ?_ ?_ ?_ ?_
  · rfl
  · rfl
  · intro l hl
    have := (hL l).1 hl
    simp only [inD, ok_cons] at this ⊢
    split
    · rfl
    · exact this
  exact ⟨rfl, rfl⟩
def Rising (l : List ByteArray) : Prop := l.Pairwise (fun a b => a.data.toList < b.data.toList)
def strDs (l : List ByteArray) : List (List D) := l.map fun s => [.imm (.string s)]
theorem strDs_length (l : List ByteArray) : (strDs l).length = l.length := by simp [strDs]
theorem strKeys_spec {P : Program} {k : TypeId} {w : World} {b n : Nat} {D : DataW Unit} (hk : P.underlying k = some .string) (h : w.ownsMap P k R1 b n D) : (strKeys D).Nodup ∧ ∀ x, x ∈ strKeys D ↔ has D (.string x) = true := by
  obtain ⟨es, rfl, hp, _⟩ := h.entries (string_keyed hk)
  obtain ⟨es', he, hks⟩ := h.keysOf
  cases he
  have hk' : ∀ p ∈ es, ∃ x, p.1 = .string x := fun p hp' => by
    obtain ⟨v, hv⟩ := hks p hp'
    obtain ⟨x, _, h2, _⟩ := Maps.keyOf_str hk hv
    exact ⟨x, h2⟩
  refine ⟨?_, fun x => ?_⟩
  · show (es.map fun p => strOf p.1).Nodup
    refine List.pairwise_map.2 (hp.imp_of_mem fun {p q} hp' hq' hne e => hne ?_)
    obtain ⟨a, ha⟩ := hk' p hp'
    obtain ⟨b, hb⟩ := hk' q hq'
    rw [ha, hb] at e ⊢
    exact congrArg _ e
  · rw [has_eq, List.any_eq_true]
    show x ∈ es.map (fun p => strOf p.1) ↔ _
    rw [List.mem_map]
    constructor
    · rintro ⟨p, hp', hs⟩
      obtain ⟨a, ha⟩ := hk' p hp'
      rw [ha] at hs
      exact ⟨p, hp', by rw [ha]; simpa [Lit.sameKey, strOf] using hs⟩
    · rintro ⟨p, hp', hs⟩
      obtain ⟨a, ha⟩ := hk' p hp'
      rw [ha] at hs
      exact ⟨p, hp', by rw [ha]; simpa [Lit.sameKey, strOf] using hs⟩
theorem rising_sort {l : List (List UInt8)} (h : l.Nodup) : Rising ((l.mergeSort leB).map fun x => ⟨x.toArray⟩) := by
  have tr : ∀ a b c : List UInt8, leB a b = true → leB b c = true → leB a c = true := fun a b c h1 h2 => by simp only [leB, decide_eq_true_eq] at *; exact List.le_trans h1 h2
  have to : ∀ a b : List UInt8, (leB a b || leB b a) = true := fun a b => by simp only [leB, Bool.or_eq_true, decide_eq_true_eq]; exact List.le_total a b
  have h1 := List.pairwise_mergeSort tr to l
  have h2 : (l.mergeSort leB).Nodup := (List.mergeSort_perm l leB).nodup_iff.2 h
  unfold Rising
  rw [List.pairwise_map]
  refine (h1.and h2).imp fun {a b} ⟨h3, h4⟩ => ?_
  simp only [leB, decide_eq_true_eq] at h3
  exact (List.le_iff_lt_or_eq.1 h3).resolve_right h4
theorem Sorted_ok (ss : List ByteArray) (hn : ss.length ≤ 1000000) : AC Tryz.prog 154 [.fn 212 [.ptr 1 0]] [(1, .box [.map 0]), (0, mpS ss)]
    (fun r O => ∃ L, Rising L ∧ (∀ s, s ∈ L ↔ s ∈ ss) ∧ r = .dat true 1 (strDs L) ∧ O = [(1, .box [.map 0]), (0, mpS ss)]) := by
  rintro c w vs ρ S hw0 hL hSt hDD hc
  have h0 := hc.T 0 _ rfl
  simp only [Rep, RepL] at h0
  obtain ⟨xs, hx, y, ys, rfl, ⟨hU, b1, hb1, rfl⟩, rfl⟩ := h0
  obtain ⟨v0, rfl⟩ : ∃ v0, vs = [v0] := by
    have := hc.tm
    match vs, this with
    | [v0], _ => exact ⟨v0, rfl⟩
  have hv0 : v0 = .func (.func 212) #[] #[.pointer (some ⟨b1, 0, none⟩)] := by simpa using hx
  subst hv0
  obtain ⟨b, ty, ys, h1, h2, h3, h4⟩ := hc.O 1 _ rfl
  obtain ⟨r, h5, n, D0, K, hown', hnn, hmem0⟩ := hc.O 0 _ rfl
  have hmem : ∀ s : ByteArray, s ∈ ss ↔ has D0 (.string s.data.toList) = true := fun s => by
    by_cases hs : s ∈ ss
    · exact ⟨fun _ => has_true_of_atKey ((hmem0 _).1 (litS_mem.2 hs)), fun _ => hs⟩
    · have := has_false_of_atKey ((hmem0 (.string s.data.toList)).2 (fun h => hs (litS_mem.1 h)))
      rw [this]; simp [hs]
  have hll : (litS ss).length = ss.length := by simp [litS]
  have hbb : b1 = b := by rw [h1] at hb1; simpa [blk] using hb1.symm
  subst hbb
  simp only [RepL] at h4
  obtain ⟨y, zs, rfl, hy, rfl⟩ := h4
  simp only [Rep] at hy
  obtain ⟨_, rfl, _⟩ := hy
  rw [h5] at h2
  have hcell : w.cell? ⟨b1, 0, none⟩ = some (.map (some r)) := by rw [cell_of_block h2]; rfl
  have hlt : b1 < w.heap.size := hc.lt 1 _ b1 rfl trivial (by rw [h1]; rfl)
  have hsz := hown'.size_le
  have hseq : SeqGives Fence.wide 2 Tryz.prog 212 #[.pointer (some ⟨b1, 0, none⟩)] encStr (fun l => l.Perm (strKeys D0)) (Maps.size D0) w :=
    AnyZ.keys_gives (ρ := Tryz.keys155_ren) { Tryz.keys155 with } Fence.wide _ trivial rfl (by omega) b1 r n D0 w hlt hcell hown'
  have hcall := callsIn_wide.1 (AnyZ.sorted_in Tryz.sorted154 Fence.wide 5 trivial trivial trivial trivial rfl (by omega) (Tryz.sorts154 _) (enters_of Tryz.func211 (by kernel_rfl) rfl) 212 #[.pointer (some ⟨b1, 0, none⟩)] trivial (enters_of Tryz.func212 (by kernel_rfl) rfl) _ _ (by have : maxLen = 9223372036854775807 := rfl; omega) (by omega) _ hseq)
  refine hcall.mono ?_
  rintro e w' ⟨v, l, rfl, hperm, hrow, hnil, hbel⟩
  obtain ⟨hnd, hms⟩ := strKeys_spec ul_string hown'
  have hnl : l.Nodup := hperm.nodup_iff.2 hnd
  let M : List (List UInt8) := l.mergeSort leB
  have hlen : (M.map encStr).length = l.length := by simp [M]
  have hxs : ((M.map encStr).map fun x => [D.imm x]) = strDs (M.map fun x => ⟨x.toArray⟩) := by simp [strDs, encStr]
  have hc2 := C_freshrow (c := c) (N := 1) (T := [(0, AV.fn 212 [.ptr 1 0])]) (O := [(1, .box [.map 0]), (0, mpS ss)]) (l := 2) (d := 0) (v := v) (e := 9) (xs := M.map encStr) hc hDD.no (Far0.of_below hbel) (by rw [hlen]; exact hrow) (fun y hy => by simp only [List.mem_map] at hy; obtain ⟨x, _, rfl⟩ := hy; rfl) rfl (by decide) rfl (fun h => Bool.false_ne_true ((show false = inD [(1, Ob.box [AV.map 0]), (0, mpS ss)] 2 from rfl).trans ((hL 2).1 h))) rfl rfl
  rw [hxs] at hc2
  refine ⟨v, _, _, rfl, ⟨M.map fun x => ⟨x.toArray⟩, rising_sort hnl, fun s => ?_, rfl, rfl⟩, ?_⟩
  · rw [hmem s, ← hms, ← hperm.mem_iff, ← (List.mergeSort_perm l leB).mem_iff, List.mem_map]
    constructor
    · rintro ⟨x, hx, rfl⟩; exact hx
    · intro hx; exact ⟨_, hx, rfl⟩
  · exact sub_TO (c := c) (N := 1) (SubT.cons rfl SubT.nil) (SubO.cons rfl (SubO.cons rfl SubO.nil)) rfl rfl (LO hL rfl) _ _ hc2
def noteL (d : Nat) (ts : List Tm) : List ByteArray := ts.foldl (fun s u => noteS d u s) []
theorem noteL_snoc (d : Nat) (l : List Tm) (u : Tm) : noteL d (l ++ [u]) = noteS d u (noteL d l) := by simp [noteL]
theorem Names_ok (d : Nat) (ts : List Tm) (hd : ∀ t, t ∈ ts → dle d t) (ht : Tm.wfs ts) (hb : ts.length * 56 ≤ 140737488351232) (hn : (ts.map (nodes d)).sum ≤ 1000000) : AC Tryz.prog 92 [.dat false 4 (tmDs ts)] [] (fun r O => (∃ L, Rising L ∧ (∀ s, s ∈ L ↔ s ∈ noteL d ts) ∧ r = .dat true 1 (strDs L)) ∧ O = []) := by
  have hlen := tmDs_length ts
  have hkk := fun ss => AC_rnE 0 6 (Keys_ok ss)
  refine AC_intro Tryz.func92 rfl Tryz.ntmps92 (Nat.le_of_ble_eq_true rfl) fun c hL hQ hDD => ?_; refine awp_seq ?_; refine awp_region ?_; refine awps_stp0 rfl rfl (by decide) (stp_move (.inr rfl) rfl) ?_; refine awps_nil ?_; refine thenQ_nil ?_; refine awp_seq ?_; refine awp_region ?_; refine awps_stp1 rfl rfl (by decide) (stp_makeMap 6 rfl (Go.Maps.string_keyed ul_string)) rfl ?_
  refine awps_stp0 rfl rfl (by decide) (stp_move (.inr rfl) rfl) ?_; refine awps_nil ?_; refine thenQ_nil ?_; refine awp_seq ?_; refine awp_seq ?_; refine awp_region ?_; refine awps_stp0 rfl rfl (by decide) (stp_move (.inl rfl) rfl) ?_
  first | refine awps_stp0 rfl rfl (by decide) (stp_len_dat rfl sl_S_api_Term rfl) ?_ | refine awps_stp0 rfl rfl (by decide) (stp_len_rowd rfl sl_S_api_Term rfl rfl) ?_ | refine awps_stp0 rfl rfl (by decide) (stp_len_nil rfl sl_S_api_Term rfl) ?_ | refine awps_stp0 rfl rfl (by decide) (stp_len_vw rfl sl_S_api_Term rfl) ?_
  refine awps_stp0 rfl rfl (by decide) (stp_move (.inl rfl) rfl) ?_; refine awps_nil ?_; refine thenQ_nil ?_; refine awp_block ?_; refine awp_while (ts.length) (fun k => k ≤ ts.length) (fun k => ⟨[(3, .map 6), (7, .dat false 4 (tmDs ts)), (8, iv (tmDs ts).length), (9, iv (k : Int))], [(6, mpS (noteL d (ts.take k)))]⟩) (by omega) ?_ (fun k hk hp => ?_)
  · exact sub_re (SubT.cons (lk_eq rfl (by first | rfl | simp)) (SubT.cons (lk_eq rfl (by first | rfl | simp)) (SubT.cons (lk_eq rfl (by first | rfl | simp)) (SubT.cons (lk_eq rfl (by first | rfl | simp)) (SubT.nil))))) (SubO.cons (ok_eq rfl (by rfl)) (SubO.nil)) rfl rfl (noL' (noL hL) _)
  have hs1 := noteL_len d (ts.take k) []
  refine awp_seq ?_; refine awp_region ?_; refine awps_stp0 rfl rfl (by decide) (stp_binI rfl rfl rfl rfl) ?_; refine awps_nil ?_; refine thenQ_nil ?_; refine awp_seq ?_; refine awp_cond rfl (fun c0 => ?_) (fun c0 => ?_)
  · try simp only [↓cqA, cqB] at c0
    obtain ⟨u, hu⟩ := get_of_lt (l := ts) (k := k) (by omega)
    have hum := List.mem_of_getElem? hu
    have hs2 := sum_split (nodes d) hu
    have hnk := fun ss h => AC_rnE 0 6 (Note_ok d u ss (hd u hum) (Tm.wfs_mem ht hum) h)
    refine awp_skip ?_; refine thenQ_nil ?_; refine awp_seq ?_; refine awp_block ?_; refine awp_seq ?_; refine awp_region ?_
    first | refine awps_stp0 rfl rfl (by decide) (stp_indexAddr rfl sl_S_api_Term rfl rfl (by omega) (tmDs_get hu)) ?_ | refine awps_stp0 rfl rfl (by decide) (stp_indexAddr_rowd rfl sl_S_api_Term rfl rfl rfl (by omega) (tmDs_get hu)) ?_ | refine awps_stp0 rfl rfl (by decide) (stp_indexAddr_row rfl sl_S_api_Term rfl rfl rfl (by omega) (tmDs_get hu) (by decide)) ?_
    first | refine awps_stp0 rfl rfl (by decide) (stp_load_all rfl tf_api_Term rfl rfl rfl rfl) ?_ | refine awps_stp0 rfl rfl (by decide) (stp_load rfl tf_api_Term rfl rfl rfl rfl rfl) ?_ | refine awps_stp0 rfl rfl (by decide) (stp_load_elpa rfl tf_api_Term rfl rfl) ?_ | refine awps_stp0 rfl rfl (by decide) (stp_load_elpn rfl tf_api_Term rfl rfl rfl) ?_
    refine awps_stp1 rfl rfl (by decide) (stp_alloc 5 rfl zv_api_Term rfl) rfl ?_; refine awps_store rfl rfl rfl tf_api_Term rfl rfl rfl rfl rfl rfl rfl rfl rfl ?_; refine awps_nil ?_; refine thenQ_nil ?_; refine awp_region ?_
    first | refine awps_stp0 rfl rfl (by decide) (stp_load_all rfl tf_api_Term rfl rfl rfl rfl) ?_ | refine awps_stp0 rfl rfl (by decide) (stp_load rfl tf_api_Term rfl rfl rfl rfl rfl) ?_ | refine awps_stp0 rfl rfl (by decide) (stp_load_elpa rfl tf_api_Term rfl rfl) ?_ | refine awps_stp0 rfl rfl (by decide) (stp_load_elpn rfl tf_api_Term rfl rfl rfl) ?_
    refine awps_stp0 rfl rfl (by decide) (stp_move (.inl rfl) rfl) ?_
    refine awps_callP (avs := [_, _]) true rfl rfl rfl (by decide) en_term_Note rfl rfl (hnk (noteL d (ts.take k)) (by simp only [noteL]; simp only [List.length_nil] at hs1; omega)) (rfl) (passO (.cons rfl trivial rfl .nil)) (by rintro r O' ⟨rfl, rfl⟩ l hl; exact .inl ((inD_dom (by rfl) l).trans hl)) (by rintro - r O' ⟨rfl, rfl⟩; exact ⟨rfl, rfl⟩) ?_
    rintro r O' ⟨rfl, rfl⟩
    refine awps_nil ?_; refine inQ_nil ?_; refine thenQ_nil ?_; refine awp_region ?_; refine awps_stp0 rfl rfl (by decide) (stp_add rfl rfl rfl (by omega)) ?_; refine awps_stp0 rfl rfl (by decide) (stp_move (.inl rfl) rfl) ?_; refine awps_nil ?_; refine thenQ_nil ?_; refine ⟨?_, ?_, ?_⟩
    · skip
      omega
    · skip
      omega
    exact sub_re (SubT.cons (lk_eq rfl (by first | rfl | simp)) (SubT.cons (lk_eq rfl (by first | rfl | simp)) (SubT.cons (lk_eq rfl (by first | rfl | simp)) (SubT.cons (lk_eq rfl (by first | rfl | simp)) (SubT.nil))))) (SubO.cons (ok_eq rfl (by rw [take_snoc hu, noteL_snoc]; rfl)) (SubO.nil)) rfl rfl (noL' (noL hL) _)
  try simp only [↓cqA, cqB] at c0
  have hk2 : ts.take k = ts := List.take_of_length_le (by omega)
  rw [hk2] at hs1 ⊢
  have hs3 := AC_mono (AC_rn 0 6 (Sorted_ok (noteL d ts) (by simp only [noteL]; simp only [List.length_nil] at hs1; omega))) (Post' := fun r O' => ∃ L, Rising L ∧ (∀ s, s ∈ L ↔ s ∈ noteL d ts) ∧ r = .dat true 1 (strDs L) ∧ O' = [(1, .box [.map 6]), (6, mpS (noteL d ts))])
    (fun r O' ⟨L, h1, h2, h3, h4⟩ => ⟨L, h1, h2, by rw [← rn_rn (swp_swp 0 6) r, h3]; rfl, by rw [← rnO_rnO (swp_swp 0 6) O', h4]; rfl⟩)
  refine awp_exit ?_; refine thenQ_exit (thenQ_exit (inQ_hit ?_)); refine thenQ_nil ?_; refine awp_seq ?_; refine awp_region ?_; refine awps_stp0 rfl rfl (by decide) (stp_move (.inl rfl) rfl) ?_
  refine awps_callP (avs := [_]) true rfl rfl rfl (by decide) en_maps_Keys_map_string_bool_string_bool rfl rfl (hkk _) (rfl) (passO (.cons rfl trivial rfl .nil)) (by rintro r O' ⟨rfl, rfl⟩; exact frB rfl) (by rintro - r O' ⟨rfl, rfl⟩; exact ⟨rfl, rfl⟩) ?_
  rintro r O' ⟨rfl, rfl⟩
  refine awps_callP (avs := [_]) true rfl rfl rfl (by decide) en_slices_Sorted_string rfl rfl (hs3) (rfl) (passO (.cons rfl trivial rfl (.cons rfl trivial rfl .nil))) (by rintro r O' ⟨L, _, _, _, rfl⟩; exact frB rfl) (by rintro - r O' ⟨L, _, _, rfl, rfl⟩; exact ⟨rfl, rfl⟩) ?_
  rintro r O' ⟨L, h1, h2, rfl, rfl⟩
  refine awps_stp0 rfl rfl (by decide) (stp_move (.inr rfl) rfl) ?_; refine awps_nil ?_; refine thenQ_nil ?_; refine awp_ret ?_
  -- leaf 0F
  refine ret0 (noL hL) (.inl rfl) (resAs_tmp rfl (resAs_nil)) ?_ ?_
  · rfl
  exact ⟨⟨L, h1, h2, rfl⟩, rfl⟩
theorem mayL_dle (d : Nat) (ih : ∀ (t : Tm) (n : Int), (mayS d t n).1 = true → dle d t ∧ (nodes d t : Int) ≤ n - (mayS d t n).2) : ∀ (l : List Tm) (n : Int), (mayL (mayS d) l n).1 = true → (∀ u, u ∈ l → dle d u) ∧ ((l.map (nodes d)).sum : Int) ≤ n - (mayL (mayS d) l n).2
  | [], n, _ => by simp [mayL]
  | a :: l, n, h => by
    simp only [mayL] at h ⊢
    split at h
    · rename_i hb
      have h1 := ih a n hb
      have h2 := mayL_dle d ih l (mayS d a n).2 h
      rw [if_pos hb]
      refine ⟨fun u hu => ?_, ?_⟩
      · rcases List.mem_cons.1 hu with rfl | hu
        · exact h1.1
        · exact h2.1 u hu
      · simp only [List.map_cons, List.sum_cons]
        have := h1.2; have := h2.2; push_cast at *; omega
    · cases h
theorem mayS_dle : ∀ (d : Nat) (t : Tm) (n : Int), (mayS d t n).1 = true → dle d t ∧ (nodes d t : Int) ≤ n - (mayS d t n).2
  | 0, t, n, h => by simp [mayS] at h
  | d + 1, t, n, h => by
    have e0 : ∀ l : List Tm, l.length = 0 → l = [] := fun l h => List.eq_nil_of_length_eq_zero h
    simp only [mayS] at h ⊢
    split at h
    · cases h
    rename_i hn
    rw [if_neg hn]
    split at h
    · rename_i hk
      rw [if_pos hk]
      simp only [Bool.and_eq_true, decide_eq_true_eq] at h
      have := e0 _ h.2
      simp [dle, nodes, this]; omega
    rename_i hk1
    rw [if_neg hk1]
    split at h
    · rename_i hk
      rw [if_pos hk]
      simp only [Bool.and_eq_true, decide_eq_true_eq] at h
      have := e0 _ h.2
      simp [dle, nodes, this]; omega
    rename_i hk2
    rw [if_neg hk2]
    split at h
    · rename_i hk
      rw [if_pos hk]
      split at h
      · rename_i hc
        rw [if_pos hc]
        have := mayL_dle d (mayS_dle d) t.args (n - 1) h
        refine ⟨this.1, ?_⟩
        simp only [nodes]; push_cast; have := this.2; omega
      · cases h
    · cases h
theorem mayT_dle {t : Tm} (h : mayT t = true) : dle 5 t ∧ nodes 5 t ≤ 25 := by
  have h1 := mayS_dle 5 t 24 h
  have h2 := mayS_range 5 t 24 (by omega)
  exact ⟨h1.1, by omega⟩
def groundB (t : Tm) : Bool := (noteS 5 t []).isEmpty
theorem Is_ok (t : Tm) (ht : t.wf) (hm : mayT t = true) : PF 164 [tmA false t] (bv (groundB t)) := by
  obtain ⟨h1, h2⟩ := mayT_dle hm
  have key := Names_ok 5 [t] (fun u hu => by simp at hu; subst hu; exact h1) ⟨(Tm.wf0_iff t).2 ht, trivial⟩ (by simp) (by simp; omega)
  rw [tmDs_map] at key
  refine AC_intro Tryz.func164 rfl Tryz.ntmps164 (Nat.le_of_ble_eq_true rfl) fun c hL hQ hDD => ?_; refine awp_seq ?_; refine awp_region ?_; refine awps_stp1 rfl rfl (by decide) (stp_box 1 rfl rfl rfl) rfl ?_; refine awps_stp0 rfl rfl (by decide) (stp_move (.inr rfl) rfl) ?_; refine awps_nil ?_; refine thenQ_nil ?_; refine awp_seq ?_; refine awp_region ?_
  first | refine awps_stp0 rfl rfl (by decide) (stp_load_all rfl tf_api_Term rfl rfl rfl rfl) ?_ | refine awps_stp0 rfl rfl (by decide) (stp_load rfl tf_api_Term rfl rfl rfl rfl rfl) ?_ | refine awps_stp0 rfl rfl (by decide) (stp_load_elpa rfl tf_api_Term rfl rfl) ?_ | refine awps_stp0 rfl rfl (by decide) (stp_load_elpn rfl tf_api_Term rfl rfl rfl) ?_
  refine awps_stp1 rfl rfl (by decide) (stp_buildSlice 4 rfl sl_S_api_Term zv_api_Term rfl rfl (by decide) (by decide) (by decide) rfl rfl rfl) rfl ?_; refine awps_rowd 4 false 1 rfl rfl rfl rfl ?_
  refine awps_callP (avs := [_]) true rfl rfl rfl (by decide) en_term_Names rfl rfl (key) (rfl) (passO .nil) (by rintro r O' ⟨_, rfl⟩; exact frB rfl) (by rintro - r O' ⟨⟨L, _, _, rfl⟩, rfl⟩; exact ⟨rfl, rfl⟩) ?_
  rintro r O' ⟨⟨L, g1, g2, rfl⟩, rfl⟩
  first | refine awps_stp0 rfl rfl (by decide) (stp_len_dat rfl sl_S_string rfl) ?_ | refine awps_stp0 rfl rfl (by decide) (stp_len_rowd rfl sl_S_string rfl rfl) ?_ | refine awps_stp0 rfl rfl (by decide) (stp_len_nil rfl sl_S_string rfl) ?_ | refine awps_stp0 rfl rfl (by decide) (stp_len_vw rfl sl_S_string rfl) ?_
  refine awps_stp0 rfl rfl (by decide) (stp_binI rfl rfl rfl rfl) ?_; refine awps_stp0 rfl rfl (by decide) (stp_move (.inr rfl) rfl) ?_; refine awps_nil ?_; refine thenQ_nil ?_; refine awp_ret ?_
  -- leaf 
  refine ret0 (noL hL) (.inl rfl) (resAs_tmp rfl (resAs_nil)) ?_ ?_
  · rfl
  refine ⟨bool_w ?_, rfl⟩
  rw [strDs_length, natBeq0, groundB, Bool.eq_iff_iff, decide_eq_true_eq, List.length_eq_zero_iff, List.isEmpty_iff]
  have e : noteL 5 [t] = noteS 5 t [] := rfl
  rw [e] at g2
  constructor
  · rintro rfl; exact List.eq_nil_iff_forall_not_mem.2 fun s hs => by have := (g2 s).2 hs; simp at this
  · intro h; rw [h] at g2; exact List.eq_nil_iff_forall_not_mem.2 fun s hs => by have := (g2 s).1 hs; simp at this
end Go.Proofs.YtdecgkhdbfgldaaGreat

set_option linter.unusedVariables false
set_option linter.unusedSimpArgs false
set_option maxRecDepth 8000
namespace Go.Proofs.YtdecgkhdbfgldaaGreat
open Go
def ltS (a b : ByteArray) : Bool := Op.bytesLess a.toList b.toList
end Go.Proofs.YtdecgkhdbfgldaaGreat

set_option linter.unusedVariables false
set_option linter.unusedSimpArgs false
set_option maxRecDepth 8000
namespace Go.Proofs.YtdecgkhdbfgldaaGreat
open Go
theorem noteL_mem (d : Nat) (y : ByteArray) (ih : ∀ (t : Tm) (ss : List ByteArray), y ∈ noteS d t ss ↔ y ∈ ss ∨ y ∈ noteS d t []) : ∀ (l : List Tm) (ss : List ByteArray), y ∈ l.foldl (fun s u => noteS d u s) ss ↔ y ∈ ss ∨ ∃ u, u ∈ l ∧ y ∈ noteS d u []
  | [], ss => by simp
  | a :: l, ss => by
    simp only [List.foldl_cons]
    rw [noteL_mem d y ih l (noteS d a ss), ih a ss]
    constructor
    · rintro ((h | h) | ⟨u, h1, h2⟩)
      · exact .inl h
      · exact .inr ⟨a, by simp, h⟩
      · exact .inr ⟨u, by simp [h1], h2⟩
    · rintro (h | ⟨u, h1, h2⟩)
      · exact .inl (.inl h)
      · rcases List.mem_cons.1 h1 with rfl | h1
        · exact .inl (.inr h2)
        · exact .inr ⟨u, h1, h2⟩
theorem noteS_mem : ∀ (d : Nat) (y : ByteArray) (t : Tm) (ss : List ByteArray), y ∈ noteS d t ss ↔ y ∈ ss ∨ y ∈ noteS d t []
  | 0, y, t, ss => by simp [noteS]
  | d + 1, y, t, ss => by
    simp only [noteS]
    rw [noteL_mem d y (noteS_mem d y), noteL_mem d y (noteS_mem d y) t.args (if t.kind = 1 then t.name :: [] else [])]
    split
    · simp only [List.mem_cons, List.not_mem_nil, or_false]
      constructor
      · rintro ((h | h) | h) <;> simp [h]
      · rintro (h | h | h) <;> simp [h]
    · simp
theorem rsign_ok (x y : Int) : PF 198 [iv x, iv y] (iv (cmpI x y)) := by
  refine AC_intro Tryz.func198 rfl Tryz.ntmps198 (Nat.le_of_ble_eq_true rfl) fun c hL hQ hDD => ?_; refine awp_seq ?_; refine awp_region ?_; refine awps_stp0 rfl rfl (by decide) (stp_move (.inr rfl) rfl) ?_; refine awps_nil ?_; refine thenQ_nil ?_; refine awp_seq ?_; refine awp_block ?_; refine awp_seq ?_; refine awp_region ?_; refine awps_stp0 rfl rfl (by decide) (stp_move (.inl rfl) rfl) ?_
  refine awps_stp0 rfl rfl (by decide) (stp_move (.inl rfl) rfl) ?_; refine awps_stp0 rfl rfl (by decide) (stp_binI rfl rfl rfl rfl) ?_; refine awps_stp0 rfl rfl (by decide) (stp_move (.inr rfl) rfl) ?_; refine awps_nil ?_; refine thenQ_nil ?_; refine awp_cond rfl (fun c0 => ?_) (fun c0 => ?_)
  · try simp only [↓cqA, cqB] at c0
    refine awp_seq ?_; refine awp_region ?_; refine awps_stp0 rfl rfl (by decide) (stp_move (.inr rfl) rfl) ?_; refine awps_nil ?_; refine thenQ_nil ?_; refine awp_ret ?_; refine inQ_ret (thenQ_ret (?_))
    -- leaf 0T
    refine ret0 (noL hL) (.inl rfl) (resAs_tmp rfl (resAs_nil)) ?_ ?_
    · rfl
    refine ⟨int_w ?_, rfl⟩
    simp only [cmpI]; split <;> (try split) <;> omega
  try simp only [↓cqA, cqB] at c0
  refine awp_seq ?_; refine awp_region ?_; refine awps_stp0 rfl rfl (by decide) (stp_move (.inl rfl) rfl) ?_; refine awps_stp0 rfl rfl (by decide) (stp_move (.inl rfl) rfl) ?_; refine awps_stp0 rfl rfl (by decide) (stp_binI rfl rfl rfl rfl) ?_; refine awps_stp0 rfl rfl (by decide) (stp_move (.inr rfl) rfl) ?_; refine awps_nil ?_; refine thenQ_nil ?_
  refine awp_cond rfl (fun c1 => ?_) (fun c1 => ?_)
  · try simp only [↓cqA, cqB] at c1
    refine awp_seq ?_; refine awp_region ?_; refine awps_stp0 rfl rfl (by decide) (stp_move (.inr rfl) rfl) ?_; refine awps_nil ?_; refine thenQ_nil ?_; refine awp_ret ?_; refine inQ_ret (thenQ_ret (?_))
    -- leaf 0F1T
    refine ret0 (noL hL) (.inl rfl) (resAs_tmp rfl (resAs_nil)) ?_ ?_
    · rfl
    refine ⟨int_w ?_, rfl⟩
    simp only [cmpI]; split <;> (try split) <;> omega
  try simp only [↓cqA, cqB] at c1
  refine awp_skip ?_; refine inQ_nil ?_; refine thenQ_nil ?_; refine awp_seq ?_; refine awp_region ?_; refine awps_stp0 rfl rfl (by decide) (stp_move (.inr rfl) rfl) ?_; refine awps_nil ?_; refine thenQ_nil ?_; refine awp_ret ?_
  -- leaf 0F1F
  refine ret0 (noL hL) (.inl rfl) (resAs_tmp rfl (resAs_nil)) ?_ ?_
  · rfl
  refine ⟨int_w ?_, rfl⟩
  simp only [cmpI]; split <;> (try split) <;> omega
end Go.Proofs.YtdecgkhdbfgldaaGreat
