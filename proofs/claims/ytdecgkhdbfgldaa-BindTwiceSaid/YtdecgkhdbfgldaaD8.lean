/- Part 8 of the proof: Fw, Fx, Fy, Fz, Ga, Gb, Gc, Gd, Rdb, Gf, Gg, Gi, Gj. -/
import Derived.Test.YtdecgkhdbfgldaaD7
set_option linter.unusedVariables false
set_option linter.unusedSimpArgs false
set_option maxRecDepth 8000
namespace Go.Proofs.Ytdecgkhdbfgldaa
open Go
theorem bothL_ok {a b : List Bd} (ha : BOk a) (hb : BOk b) : BOk (bothL a b) := by
  unfold bothL
  split
  · rename_i h
    have := bothX_ok ⟨ha.ris, ha.el⟩ b hb.el
    exact ⟨this.1.1, by omega, this.1.2⟩
  · exact ⟨List.Pairwise.nil, by simp, fun b hb => by simp at hb⟩
theorem mayB_len {l : List Bd} (h : mayB l = true) : l.length ≤ 16 := by
  simp only [mayB, Bool.and_eq_true, decide_eq_true_eq] at h
  exact h.1.1
def joinC (a b : List Bd) : Bool := mayB a && mayB b && groundL a && groundL b
def joinL (a b : List Bd) : List Bd := if joinC a b = true then bothL a b else []
def joinE (a b : List Bd) : Int := if joinC a b = true then bothE a b else 1
theorem Join_ok (a b : List Bd) (ha : ∀ x ∈ a, x.wf) (hb : ∀ x ∈ b, x.wf) : PF 38 [bdA a, bdA b] (.tup [.dat true 5 (bdDs (joinL a b)), iv (joinE a b)]) := by
  refine AC_leP (Post := fun r O => (joinC a b = false ∧ r = .tup [.imm (.slice none 0 0), iv 1] ∨ r = .tup [.dat true 5 (bdDs (joinL a b)), iv (joinE a b)]) ∧ O = []) ?_ (fun r O' h => by
    obtain ⟨⟨h1, rfl⟩ | rfl, rfl⟩ := h
    · exact ⟨_, .tup (.cons (.nil (f := true) (k := 5)) (.cons .refl .nil)), by rw [joinL, joinE, if_neg (by simp [h1]), if_neg (by simp [h1])]; rfl, rfl⟩
    · exact ⟨_, .refl, rfl, rfl⟩)
  refine AC_intro Try.func38 rfl Try.ntmps38 (Nat.le_of_ble_eq_true rfl) fun c hL hQ => ?_
  refine awp_seq ?_
  refine awp_region ?_
  refine awps_stp0 rfl rfl (by decide) (stp_move (.inr rfl) rfl) ?_
  refine awps_stp0 rfl rfl (by decide) (stp_move (.inr rfl) rfl) ?_
  refine awps_nil ?_
  refine thenQ_nil ?_
  refine awp_seq ?_
  refine awp_seq ?_
  refine awp_region ?_
  refine awps_stp0 rfl rfl (by decide) (stp_move (.inl rfl) rfl) ?_
  refine awps_call (avs := [_]) false rfl rfl rfl (by decide) en_bind_May rfl rfl (bindMay_ok a ha) rfl rfl ?_
  refine awps_stp0 rfl rfl (by decide) (stp_not rfl rfl) ?_
  refine awps_stp0 rfl rfl (by decide) (stp_move (.inl rfl) rfl) ?_
  refine awps_split 11 rfl (fun g11 => ?_) (fun g11 => ?_)
  · try simp only [↓str_beq_t, ↓str_beq_f, decide_eq_true_eq, decide_eq_false_iff_not, Bool.not_eq_true', Bool.not_eq_false', Int.not_lt, Int.not_le, beq_iff_eq, beq_eq_false_iff_ne, bne_iff_ne, bne_eq_false_iff_eq, ne_eq] at g11
    refine awps_gs rfl rfl rfl rfl (by decide) rfl (by decide) ?_
    refine awps_gs rfl rfl rfl rfl (by decide) rfl (by decide) ?_
    refine awps_gs rfl rfl rfl rfl (by decide) rfl (by decide) ?_
    refine awps_stp0 rfl rfl (by decide) (stp_pick rfl rfl rfl) ?_
    refine awps_stp0 rfl rfl (by decide) (stp_move (.inl rfl) rfl) ?_
    refine awps_gs rfl rfl rfl rfl (by decide) rfl (by decide) ?_
    try (have hoka := mayB_bok (l := a) (by assumption) ha)
    refine awps_gs rfl rfl rfl rfl (by decide) rfl (by decide) ?_
    refine awps_gs rfl rfl rfl rfl (by decide) rfl (by decide) ?_
    refine awps_stp0 rfl rfl (by decide) (stp_pick rfl rfl rfl) ?_
    refine awps_stp0 rfl rfl (by decide) (stp_move (.inl rfl) rfl) ?_
    refine awps_gs rfl rfl rfl rfl (by decide) rfl (by decide) ?_
    try (have hokb := mayB_bok (l := b) (by assumption) hb)
    refine awps_gs rfl rfl rfl rfl (by decide) rfl (by decide) ?_
    refine awps_gs rfl rfl rfl rfl (by decide) rfl (by decide) ?_
    refine awps_stp0 rfl rfl (by decide) (stp_pick rfl rfl rfl) ?_
    refine awps_nil ?_
    refine thenQ_nil ?_
    refine awp_condT rfl ?_
    refine awp_seq ?_
    refine awp_region ?_
    refine awps_stp0 rfl rfl (by decide) (stp_move (.inr rfl) rfl) ?_
    refine awps_stp0 rfl rfl (by decide) (stp_move (.inr rfl) rfl) ?_
    refine awps_nil ?_
    refine thenQ_nil ?_
    refine awp_ret ?_
    refine thenQ_ret (?_)
    -- leaf g11T
    refine ret0 (noL hL) (.inl rfl) (resAs_tmp rfl (resAs_tmp rfl (resAs_nil))) ?_ ?_
    · rfl
    first | exact ⟨.inl ⟨by simp_all [joinC], rfl⟩, rfl⟩ | exact ⟨.inr (by rw [joinL, joinE, if_pos hjc, if_pos hjc]; rfl), rfl⟩
  try simp only [↓str_beq_t, ↓str_beq_f, decide_eq_true_eq, decide_eq_false_iff_not, Bool.not_eq_true', Bool.not_eq_false', Int.not_lt, Int.not_le, beq_iff_eq, beq_eq_false_iff_ne, bne_iff_ne, bne_eq_false_iff_eq, ne_eq] at g11
  refine awps_g0 rfl rfl rfl (by decide) rfl (by decide) (stp_move (.inl rfl) rfl) ?_
  refine awps_g0 rfl rfl rfl (by decide) rfl (by decide) (stp_call (avs := [_]) false rfl en_bind_May rfl rfl (bindMay_ok b hb) (fun _ => rfl) rfl) ?_
  refine awps_g0 rfl rfl rfl (by decide) rfl (by decide) (stp_not rfl rfl) ?_
  refine awps_stp0 rfl rfl (by decide) (stp_pick rfl rfl rfl) ?_
  refine awps_stp0 rfl rfl (by decide) (stp_move (.inl rfl) rfl) ?_
  refine awps_split 16 rfl (fun g16 => ?_) (fun g16 => ?_)
  · try simp only [↓str_beq_t, ↓str_beq_f, decide_eq_true_eq, decide_eq_false_iff_not, Bool.not_eq_true', Bool.not_eq_false', Int.not_lt, Int.not_le, beq_iff_eq, beq_eq_false_iff_ne, bne_iff_ne, bne_eq_false_iff_eq, ne_eq] at g16
    refine awps_gs rfl rfl rfl rfl (by decide) rfl (by decide) ?_
    try (have hoka := mayB_bok (l := a) (by assumption) ha)
    refine awps_gs rfl rfl rfl rfl (by decide) rfl (by decide) ?_
    refine awps_gs rfl rfl rfl rfl (by decide) rfl (by decide) ?_
    refine awps_stp0 rfl rfl (by decide) (stp_pick rfl rfl rfl) ?_
    refine awps_stp0 rfl rfl (by decide) (stp_move (.inl rfl) rfl) ?_
    refine awps_gs rfl rfl rfl rfl (by decide) rfl (by decide) ?_
    try (have hokb := mayB_bok (l := b) (by assumption) hb)
    refine awps_gs rfl rfl rfl rfl (by decide) rfl (by decide) ?_
    refine awps_gs rfl rfl rfl rfl (by decide) rfl (by decide) ?_
    refine awps_stp0 rfl rfl (by decide) (stp_pick rfl rfl rfl) ?_
    refine awps_nil ?_
    refine thenQ_nil ?_
    refine awp_condT rfl ?_
    refine awp_seq ?_
    refine awp_region ?_
    refine awps_stp0 rfl rfl (by decide) (stp_move (.inr rfl) rfl) ?_
    refine awps_stp0 rfl rfl (by decide) (stp_move (.inr rfl) rfl) ?_
    refine awps_nil ?_
    refine thenQ_nil ?_
    refine awp_ret ?_
    refine thenQ_ret (?_)
    -- leaf g11Fg16T
    refine ret0 (noL hL) (.inl rfl) (resAs_tmp rfl (resAs_tmp rfl (resAs_nil))) ?_ ?_
    · rfl
    first | exact ⟨.inl ⟨by simp_all [joinC], rfl⟩, rfl⟩ | exact ⟨.inr (by rw [joinL, joinE, if_pos hjc, if_pos hjc]; rfl), rfl⟩
  try simp only [↓str_beq_t, ↓str_beq_f, decide_eq_true_eq, decide_eq_false_iff_not, Bool.not_eq_true', Bool.not_eq_false', Int.not_lt, Int.not_le, beq_iff_eq, beq_eq_false_iff_ne, bne_iff_ne, bne_eq_false_iff_eq, ne_eq] at g16
  refine awps_g0 rfl rfl rfl (by decide) rfl (by decide) (stp_move (.inl rfl) rfl) ?_
  try (have hoka := mayB_bok (l := a) (by assumption) ha)
  refine awps_g0 rfl rfl rfl (by decide) rfl (by decide) (stp_call (avs := [_]) false rfl en_bind_Ground rfl rfl (bindGround_ok a hoka) (fun _ => rfl) rfl) ?_
  refine awps_g0 rfl rfl rfl (by decide) rfl (by decide) (stp_not rfl rfl) ?_
  refine awps_stp0 rfl rfl (by decide) (stp_pick rfl rfl rfl) ?_
  refine awps_stp0 rfl rfl (by decide) (stp_move (.inl rfl) rfl) ?_
  refine awps_split 21 rfl (fun g21 => ?_) (fun g21 => ?_)
  · try simp only [↓str_beq_t, ↓str_beq_f, decide_eq_true_eq, decide_eq_false_iff_not, Bool.not_eq_true', Bool.not_eq_false', Int.not_lt, Int.not_le, beq_iff_eq, beq_eq_false_iff_ne, bne_iff_ne, bne_eq_false_iff_eq, ne_eq] at g21
    refine awps_gs rfl rfl rfl rfl (by decide) rfl (by decide) ?_
    try (have hokb := mayB_bok (l := b) (by assumption) hb)
    refine awps_gs rfl rfl rfl rfl (by decide) rfl (by decide) ?_
    refine awps_gs rfl rfl rfl rfl (by decide) rfl (by decide) ?_
    refine awps_stp0 rfl rfl (by decide) (stp_pick rfl rfl rfl) ?_
    refine awps_nil ?_
    refine thenQ_nil ?_
    refine awp_condT rfl ?_
    refine awp_seq ?_
    refine awp_region ?_
    refine awps_stp0 rfl rfl (by decide) (stp_move (.inr rfl) rfl) ?_
    refine awps_stp0 rfl rfl (by decide) (stp_move (.inr rfl) rfl) ?_
    refine awps_nil ?_
    refine thenQ_nil ?_
    refine awp_ret ?_
    refine thenQ_ret (?_)
    -- leaf g11Fg16Fg21T
    refine ret0 (noL hL) (.inl rfl) (resAs_tmp rfl (resAs_tmp rfl (resAs_nil))) ?_ ?_
    · rfl
    first | exact ⟨.inl ⟨by simp_all [joinC], rfl⟩, rfl⟩ | exact ⟨.inr (by rw [joinL, joinE, if_pos hjc, if_pos hjc]; rfl), rfl⟩
  try simp only [↓str_beq_t, ↓str_beq_f, decide_eq_true_eq, decide_eq_false_iff_not, Bool.not_eq_true', Bool.not_eq_false', Int.not_lt, Int.not_le, beq_iff_eq, beq_eq_false_iff_ne, bne_iff_ne, bne_eq_false_iff_eq, ne_eq] at g21
  refine awps_g0 rfl rfl rfl (by decide) rfl (by decide) (stp_move (.inl rfl) rfl) ?_
  try (have hokb := mayB_bok (l := b) (by assumption) hb)
  refine awps_g0 rfl rfl rfl (by decide) rfl (by decide) (stp_call (avs := [_]) false rfl en_bind_Ground rfl rfl (bindGround_ok b hokb) (fun _ => rfl) rfl) ?_
  refine awps_g0 rfl rfl rfl (by decide) rfl (by decide) (stp_not rfl rfl) ?_
  refine awps_stp0 rfl rfl (by decide) (stp_pick rfl rfl rfl) ?_
  refine awps_nil ?_
  refine thenQ_nil ?_
  refine awp_cond rfl (fun c0 => ?_) (fun c0 => ?_)
  · try simp only [↓str_beq_t, ↓str_beq_f, decide_eq_true_eq, decide_eq_false_iff_not, Bool.not_eq_true', Bool.not_eq_false', Int.not_lt, Int.not_le, beq_iff_eq, beq_eq_false_iff_ne, bne_iff_ne, bne_eq_false_iff_eq, ne_eq] at c0
    refine awp_seq ?_
    refine awp_region ?_
    refine awps_stp0 rfl rfl (by decide) (stp_move (.inr rfl) rfl) ?_
    refine awps_stp0 rfl rfl (by decide) (stp_move (.inr rfl) rfl) ?_
    refine awps_nil ?_
    refine thenQ_nil ?_
    refine awp_ret ?_
    refine thenQ_ret (?_)
    -- leaf g11Fg16Fg21F0T
    refine ret0 (noL hL) (.inl rfl) (resAs_tmp rfl (resAs_tmp rfl (resAs_nil))) ?_ ?_
    · rfl
    first | exact ⟨.inl ⟨by simp_all [joinC], rfl⟩, rfl⟩ | exact ⟨.inr (by rw [joinL, joinE, if_pos hjc, if_pos hjc]; rfl), rfl⟩
  try simp only [↓str_beq_t, ↓str_beq_f, decide_eq_true_eq, decide_eq_false_iff_not, Bool.not_eq_true', Bool.not_eq_false', Int.not_lt, Int.not_le, beq_iff_eq, beq_eq_false_iff_ne, bne_iff_ne, bne_eq_false_iff_eq, ne_eq] at c0
  have hjc : joinC a b = true := by simp_all [joinC]
  have hma : mayB a = true := by simp_all
  have hmb : mayB b = true := by simp_all
  have hoka := mayB_bok hma ha
  have hokb := mayB_bok hmb hb
  have hl1 := mayB_len hma
  have hl2 := mayB_len hmb
  refine awp_skip ?_
  refine thenQ_nil ?_
  refine awp_seq ?_
  refine awp_region ?_
  refine awps_stp0 rfl rfl (by decide) (stp_move (.inl rfl) rfl) ?_
  refine awps_stp0 rfl rfl (by decide) (stp_move (.inl rfl) rfl) ?_
  refine awps_call (avs := [_, _]) false rfl rfl rfl (by decide) en_bind_Both rfl rfl (Both_ok a b hoka hokb (by omega)) rfl rfl ?_
  refine awps_stp0 rfl rfl (by decide) (stp_move (.inl rfl) rfl) ?_
  refine awps_stp0 rfl rfl (by decide) (stp_extract rfl rfl rfl) ?_
  refine awps_stp0 rfl rfl (by decide) (stp_extract rfl rfl rfl) ?_
  refine awps_stp0 rfl rfl (by decide) (stp_move (.inr rfl) rfl) ?_
  refine awps_stp0 rfl rfl (by decide) (stp_move (.inr rfl) rfl) ?_
  refine awps_nil ?_
  refine thenQ_nil ?_
  refine awp_seq ?_
  refine awp_region ?_
  refine awps_stp0 rfl rfl (by decide) (stp_move (.inl rfl) rfl) ?_
  refine awps_callP (avs := [_]) false rfl rfl rfl (by decide) en_bind_Own rfl rfl (bindOwn_ok (bothL a b) (bothL_ok hoka hokb)) (rfl) (passO .nil) (by rintro r O' ⟨_, rfl⟩; exact frB rfl) (by rintro h; cases h) ?_
  rintro r O' ⟨rfl, rfl⟩
  refine awps_stp0 rfl rfl (by decide) (stp_move (.inl rfl) rfl) ?_
  refine awps_stp0 rfl rfl (by decide) (stp_move (.inr rfl) rfl) ?_
  refine awps_stp0 rfl rfl (by decide) (stp_move (.inr rfl) rfl) ?_
  refine awps_sub (sub_freeze (l := 2) rfl (by decide) (noL hL _) rfl rfl) ?_
  refine awps_nil ?_
  refine thenQ_nil ?_
  refine awp_ret ?_
  -- leaf g11Fg16Fg21F0F
  refine ret0 (noL hL) (.inl rfl) (resAs_tmp rfl (resAs_tmp rfl (resAs_nil))) ?_ ?_
  · rfl
  first | exact ⟨.inl ⟨by simp_all [joinC], rfl⟩, rfl⟩ | exact ⟨.inr (by rw [joinL, joinE, if_pos hjc, if_pos hjc]; rfl), rfl⟩
end Go.Proofs.Ytdecgkhdbfgldaa

set_option linter.unusedVariables false
set_option linter.unusedSimpArgs false
set_option maxRecDepth 8000
namespace Go.Proofs.Ytdecgkhdbfgldaa
open Go
def setP (l : List Bd) (s n : ByteArray) : Bool := hasB l n || decide (n = s)
def setC (l : List Bd) (s : ByteArray) (t : Tm) : Bool := mayB l && varB s && mayT t && !(hasB l s || (noteL 5 [t]).any (setP l s))
def setL (l : List Bd) (s : ByteArray) (t : Tm) : List Bd := if setC l s t = true then standL l s t else []
def setE (l : List Bd) (s : ByteArray) (t : Tm) : Int := if setC l s t = true then standE l s t else 1
theorem Set1_ok (l : List Bd) (hl : BOk l) (s n : ByteArray) : AC Try.prog 70 [sv n, .ptr 3 0, .ptr 4 0] [(3, .box [bdA l]), (4, .box [sv s])] (fun r O => r = bv (setP l s n) ∧ O = [(3, .box [bdA l]), (4, .box [sv s])]) := by
  have hln := hl.len
  refine AC_intro Try.func70 rfl Try.ntmps70 (Nat.le_of_ble_eq_true rfl) fun c hL hQ => ?_
  refine awp_seq ?_
  refine awp_region ?_
  refine awps_stp0 rfl rfl (by decide) (stp_move (.inr rfl) rfl) ?_
  refine awps_nil ?_
  refine thenQ_nil ?_
  refine awp_seq ?_
  refine awp_region ?_
  first | refine awps_stp0 rfl rfl (by decide) (stp_load rfl tf_S_api_Bind rfl rfl rfl rfl rfl) ?_ | refine awps_stp0 rfl rfl (by decide) (stp_load_elp1 rfl tf_S_api_Bind rfl) ?_ | refine awps_stp0 rfl rfl (by decide) (stp_load_elpn rfl tf_S_api_Bind rfl rfl rfl) ?_
  refine awps_stp0 rfl rfl (by decide) (stp_move (.inl rfl) rfl) ?_
  refine awps_call (avs := [_, _]) false rfl rfl rfl (by decide) en_bind_find rfl rfl (find_ok l n hl.ris (by omega)) rfl rfl ?_
  refine awps_stp0 rfl rfl (by decide) (stp_move (.inl rfl) rfl) ?_
  refine awps_stp0 rfl rfl (by decide) (stp_extract rfl rfl rfl) ?_
  refine awps_stp0 rfl rfl (by decide) (stp_extract rfl rfl rfl) ?_
  refine awps_stp0 rfl rfl (by decide) (stp_move (.inr rfl) rfl) ?_
  refine awps_stp0 rfl rfl (by decide) (stp_move (.inr rfl) rfl) ?_
  refine awps_nil ?_
  refine thenQ_nil ?_
  refine awp_seq ?_
  refine awp_region ?_
  refine awps_stp0 rfl rfl (by decide) (stp_move (.inl rfl) rfl) ?_
  refine awps_stp0 rfl rfl (by decide) (stp_move (.inl rfl) rfl) ?_
  refine awps_split 14 rfl (fun g14 => ?_) (fun g14 => ?_)
  · try simp only [↓str_beq_t, ↓str_beq_f, decide_eq_true_eq, decide_eq_false_iff_not, Bool.not_eq_true', Bool.not_eq_false', Int.not_lt, Int.not_le, beq_iff_eq, beq_eq_false_iff_ne, bne_iff_ne, bne_eq_false_iff_eq, ne_eq] at g14
    refine awps_gs rfl rfl rfl rfl (by decide) rfl (by decide) ?_
    refine awps_gs rfl rfl rfl rfl (by decide) rfl (by decide) ?_
    refine awps_gs rfl rfl rfl rfl (by decide) rfl (by decide) ?_
    refine awps_stp0 rfl rfl (by decide) (stp_pick rfl rfl rfl) ?_
    refine awps_stp0 rfl rfl (by decide) (stp_move (.inr rfl) rfl) ?_
    refine awps_nil ?_
    refine thenQ_nil ?_
    refine awp_ret ?_
    -- leaf g14T
    change retQ _ _ _ _ _ _ _
    refine retO (O' := [(3, _), (4, _)]) (.inl rfl) (resAs_tmp rfl resAs_nil) (SubO.cons rfl (SubO.cons rfl SubO.nil)) ?_ ?_ (LO hL rfl) ?_
    · rfl
    · rfl
    exact ⟨bool_w (by rw [Bool.eq_iff_iff]; simp_all [setP] <;> (rw [← str_beq_t]; simp)), rfl⟩
  try simp only [↓str_beq_t, ↓str_beq_f, decide_eq_true_eq, decide_eq_false_iff_not, Bool.not_eq_true', Bool.not_eq_false', Int.not_lt, Int.not_le, beq_iff_eq, beq_eq_false_iff_ne, bne_iff_ne, bne_eq_false_iff_eq, ne_eq] at g14
  refine awps_g0 rfl rfl rfl (by decide) rfl (by decide) (stp_move (.inl rfl) rfl) ?_
  first | refine awps_g0 rfl rfl rfl (by decide) rfl (by decide) (stp_load rfl tf_string rfl rfl rfl rfl rfl) ?_ | refine awps_g0 rfl rfl rfl (by decide) rfl (by decide) (stp_load_elp1 rfl tf_string rfl) ?_ | refine awps_g0 rfl rfl rfl (by decide) rfl (by decide) (stp_load_elpn rfl tf_string rfl rfl rfl) ?_
  refine awps_g0 rfl rfl rfl (by decide) rfl (by decide) (stp_binS rfl rfl rfl rfl) ?_
  refine awps_stp0 rfl rfl (by decide) (stp_pick rfl rfl rfl) ?_
  refine awps_stp0 rfl rfl (by decide) (stp_move (.inr rfl) rfl) ?_
  refine awps_nil ?_
  refine thenQ_nil ?_
  refine awp_ret ?_
  -- leaf g14F
  change retQ _ _ _ _ _ _ _
  refine retO (O' := [(3, _), (4, _)]) (.inl rfl) (resAs_tmp rfl resAs_nil) (SubO.cons rfl (SubO.cons rfl SubO.nil)) ?_ ?_ (LO hL rfl) ?_
  · rfl
  · rfl
  exact ⟨bool_w (by rw [Bool.eq_iff_iff]; simp_all [setP] <;> (rw [← str_beq_t]; simp)), rfl⟩
theorem wfs_one {t : Tm} (ht : t.wf) : Tm.wfs [t] := ⟨(Tm.wf0_iff t).2 ht, trivial⟩
theorem Set_ok (l : List Bd) (hw : ∀ b ∈ l, b.wf) (s : ByteArray) (hs : s.size ≤ 140737488351232) (t : Tm) (ht : t.wf) : PF 35 [bdA l, sv s, tmA false t] (.tup [.dat true 5 (bdDs (setL l s t)), iv (setE l s t)]) := by
  refine AC_leP (Post := fun r O => (setC l s t = false ∧ r = .tup [.imm (.slice none 0 0), iv 1] ∨ r = .tup [.dat true 5 (bdDs (setL l s t)), iv (setE l s t)]) ∧ O = []) ?_ (fun r O' h => by
    obtain ⟨⟨h1, rfl⟩ | rfl, rfl⟩ := h
    · exact ⟨_, .tup (.cons (.nil (f := true) (k := 5)) (.cons .refl .nil)), by rw [setL, setE, if_neg (by simp [h1]), if_neg (by simp [h1])]; rfl, rfl⟩
    · exact ⟨_, .refl, rfl, rfl⟩)
  refine AC_intro Try.func35 rfl Try.ntmps35 (Nat.le_of_ble_eq_true rfl) fun c hL hQ => ?_
  refine awp_seq ?_
  refine awp_region ?_
  refine awps_stp1 rfl rfl (by decide) (stp_box 3 rfl rfl rfl) rfl ?_
  refine awps_stp1 rfl rfl (by decide) (stp_box 4 rfl rfl rfl) rfl ?_
  refine awps_stp1 rfl rfl (by decide) (stp_box 5 rfl rfl rfl) rfl ?_
  refine awps_stp0 rfl rfl (by decide) (stp_move (.inr rfl) rfl) ?_
  refine awps_stp0 rfl rfl (by decide) (stp_move (.inr rfl) rfl) ?_
  refine awps_nil ?_
  refine thenQ_nil ?_
  refine awp_seq ?_
  refine awp_seq ?_
  refine awp_region ?_
  first | refine awps_stp0 rfl rfl (by decide) (stp_load rfl tf_S_api_Bind rfl rfl rfl rfl rfl) ?_ | refine awps_stp0 rfl rfl (by decide) (stp_load_elp1 rfl tf_S_api_Bind rfl) ?_ | refine awps_stp0 rfl rfl (by decide) (stp_load_elpn rfl tf_S_api_Bind rfl rfl rfl) ?_
  refine awps_call (avs := [_]) false rfl rfl rfl (by decide) en_bind_May rfl rfl (bindMay_ok l hw) rfl rfl ?_
  refine awps_stp0 rfl rfl (by decide) (stp_not rfl rfl) ?_
  refine awps_stp0 rfl rfl (by decide) (stp_move (.inl rfl) rfl) ?_
  refine awps_split 14 rfl (fun g14 => ?_) (fun g14 => ?_)
  · try simp only [↓str_beq_t, ↓str_beq_f, decide_eq_true_eq, decide_eq_false_iff_not, Bool.not_eq_true', Bool.not_eq_false', Int.not_lt, Int.not_le, beq_iff_eq, beq_eq_false_iff_ne, bne_iff_ne, bne_eq_false_iff_eq, ne_eq] at g14
    refine awps_gs rfl rfl rfl rfl (by decide) rfl (by decide) ?_
    refine awps_gs rfl rfl rfl rfl (by decide) rfl (by decide) ?_
    refine awps_gs rfl rfl rfl rfl (by decide) rfl (by decide) ?_
    refine awps_stp0 rfl rfl (by decide) (stp_pick rfl rfl rfl) ?_
    refine awps_stp0 rfl rfl (by decide) (stp_move (.inl rfl) rfl) ?_
    refine awps_gs rfl rfl rfl rfl (by decide) rfl (by decide) ?_
    refine awps_gs rfl rfl rfl rfl (by decide) rfl (by decide) ?_
    refine awps_gs rfl rfl rfl rfl (by decide) rfl (by decide) ?_
    refine awps_stp0 rfl rfl (by decide) (stp_pick rfl rfl rfl) ?_
    refine awps_nil ?_
    refine thenQ_nil ?_
    refine awp_condT rfl ?_
    refine awp_seq ?_
    refine awp_region ?_
    refine awps_stp0 rfl rfl (by decide) (stp_move (.inr rfl) rfl) ?_
    refine awps_stp0 rfl rfl (by decide) (stp_move (.inr rfl) rfl) ?_
    refine awps_nil ?_
    refine thenQ_nil ?_
    refine awp_ret ?_
    refine thenQ_ret (?_)
    -- leaf g14T
    refine ret0 (noL hL) (.inl rfl) (resAs_tmp rfl (resAs_tmp rfl (resAs_nil))) ?_ ?_
    · rfl
    first | exact ⟨.inl ⟨by simp_all [setC], rfl⟩, rfl⟩ | exact ⟨.inr (by rw [setL, setE, if_pos hsc, if_pos hsc]; rfl), rfl⟩
  try simp only [↓str_beq_t, ↓str_beq_f, decide_eq_true_eq, decide_eq_false_iff_not, Bool.not_eq_true', Bool.not_eq_false', Int.not_lt, Int.not_le, beq_iff_eq, beq_eq_false_iff_ne, bne_iff_ne, bne_eq_false_iff_eq, ne_eq] at g14
  first | refine awps_g0 rfl rfl rfl (by decide) rfl (by decide) (stp_load rfl tf_string rfl rfl rfl rfl rfl) ?_ | refine awps_g0 rfl rfl rfl (by decide) rfl (by decide) (stp_load_elp1 rfl tf_string rfl) ?_ | refine awps_g0 rfl rfl rfl (by decide) rfl (by decide) (stp_load_elpn rfl tf_string rfl rfl rfl) ?_
  refine awps_g0 rfl rfl rfl (by decide) rfl (by decide) (stp_call (avs := [_]) false rfl en_term_Var rfl rfl (Var_ok s) (fun _ => rfl) rfl) ?_
  refine awps_g0 rfl rfl rfl (by decide) rfl (by decide) (stp_not rfl rfl) ?_
  refine awps_stp0 rfl rfl (by decide) (stp_pick rfl rfl rfl) ?_
  refine awps_stp0 rfl rfl (by decide) (stp_move (.inl rfl) rfl) ?_
  refine awps_split 19 rfl (fun g19 => ?_) (fun g19 => ?_)
  · try simp only [↓str_beq_t, ↓str_beq_f, decide_eq_true_eq, decide_eq_false_iff_not, Bool.not_eq_true', Bool.not_eq_false', Int.not_lt, Int.not_le, beq_iff_eq, beq_eq_false_iff_ne, bne_iff_ne, bne_eq_false_iff_eq, ne_eq] at g19
    refine awps_gs rfl rfl rfl rfl (by decide) rfl (by decide) ?_
    refine awps_gs rfl rfl rfl rfl (by decide) rfl (by decide) ?_
    refine awps_gs rfl rfl rfl rfl (by decide) rfl (by decide) ?_
    refine awps_stp0 rfl rfl (by decide) (stp_pick rfl rfl rfl) ?_
    refine awps_nil ?_
    refine thenQ_nil ?_
    refine awp_condT rfl ?_
    refine awp_seq ?_
    refine awp_region ?_
    refine awps_stp0 rfl rfl (by decide) (stp_move (.inr rfl) rfl) ?_
    refine awps_stp0 rfl rfl (by decide) (stp_move (.inr rfl) rfl) ?_
    refine awps_nil ?_
    refine thenQ_nil ?_
    refine awp_ret ?_
    refine thenQ_ret (?_)
    -- leaf g14Fg19T
    refine ret0 (noL hL) (.inl rfl) (resAs_tmp rfl (resAs_tmp rfl (resAs_nil))) ?_ ?_
    · rfl
    first | exact ⟨.inl ⟨by simp_all [setC], rfl⟩, rfl⟩ | exact ⟨.inr (by rw [setL, setE, if_pos hsc, if_pos hsc]; rfl), rfl⟩
  try simp only [↓str_beq_t, ↓str_beq_f, decide_eq_true_eq, decide_eq_false_iff_not, Bool.not_eq_true', Bool.not_eq_false', Int.not_lt, Int.not_le, beq_iff_eq, beq_eq_false_iff_ne, bne_iff_ne, bne_eq_false_iff_eq, ne_eq] at g19
  first | refine awps_g0 rfl rfl rfl (by decide) rfl (by decide) (stp_load_all rfl tf_api_Term rfl rfl rfl rfl) ?_ | refine awps_g0 rfl rfl rfl (by decide) rfl (by decide) (stp_load rfl tf_api_Term rfl rfl rfl rfl rfl) ?_ | refine awps_g0 rfl rfl rfl (by decide) rfl (by decide) (stp_load_elpa rfl tf_api_Term rfl rfl) ?_ | refine awps_g0 rfl rfl rfl (by decide) rfl (by decide) (stp_load_elpn rfl tf_api_Term rfl rfl rfl) ?_
  refine awps_g0 rfl rfl rfl (by decide) rfl (by decide) (stp_call (avs := [_]) false rfl en_term_May rfl rfl (May_ok t ht) (fun _ => rfl) rfl) ?_
  refine awps_g0 rfl rfl rfl (by decide) rfl (by decide) (stp_not rfl rfl) ?_
  refine awps_stp0 rfl rfl (by decide) (stp_pick rfl rfl rfl) ?_
  refine awps_nil ?_
  refine thenQ_nil ?_
  refine awp_cond rfl (fun c0 => ?_) (fun c0 => ?_)
  · try simp only [↓str_beq_t, ↓str_beq_f, decide_eq_true_eq, decide_eq_false_iff_not, Bool.not_eq_true', Bool.not_eq_false', Int.not_lt, Int.not_le, beq_iff_eq, beq_eq_false_iff_ne, bne_iff_ne, bne_eq_false_iff_eq, ne_eq] at c0
    refine awp_seq ?_
    refine awp_region ?_
    refine awps_stp0 rfl rfl (by decide) (stp_move (.inr rfl) rfl) ?_
    refine awps_stp0 rfl rfl (by decide) (stp_move (.inr rfl) rfl) ?_
    refine awps_nil ?_
    refine thenQ_nil ?_
    refine awp_ret ?_
    refine thenQ_ret (?_)
    -- leaf g14Fg19F0T
    refine ret0 (noL hL) (.inl rfl) (resAs_tmp rfl (resAs_tmp rfl (resAs_nil))) ?_ ?_
    · rfl
    first | exact ⟨.inl ⟨by simp_all [setC], rfl⟩, rfl⟩ | exact ⟨.inr (by rw [setL, setE, if_pos hsc, if_pos hsc]; rfl), rfl⟩
  try simp only [↓str_beq_t, ↓str_beq_f, decide_eq_true_eq, decide_eq_false_iff_not, Bool.not_eq_true', Bool.not_eq_false', Int.not_lt, Int.not_le, beq_iff_eq, beq_eq_false_iff_ne, bne_iff_ne, bne_eq_false_iff_eq, ne_eq] at c0
  have hml : mayB l = true := by simp_all
  have hvs : varB s = true := by simp_all
  have hmt : mayT t = true := by simp_all
  have hok := mayB_bok hml hw
  have hln := hok.len
  have hnm := Names_ok 5 [t] (fun u hu => by simp at hu; subst hu; exact (mayT_dle hmt).1) (wfs_one ht) (by simp) (by have := (mayT_dle hmt).2; simp; omega)
  have hnl := noteL_len 5 [t] []
  have hnd := (mayT_dle hmt).2
  rw [tmDs_map] at hnm
  refine awp_skip ?_
  refine thenQ_nil ?_
  refine awp_seq ?_
  refine awp_region ?_
  refine awps_stp0 rfl rfl (by decide) (stp_makeFunc (vs := [_, _]) rfl rfl) ?_
  refine awps_stp0 rfl rfl (by decide) (stp_move (.inr rfl) rfl) ?_
  refine awps_nil ?_
  refine thenQ_nil ?_
  refine awp_seq ?_
  refine awp_seq ?_
  refine awp_region ?_
  first | refine awps_stp0 rfl rfl (by decide) (stp_load rfl tf_S_api_Bind rfl rfl rfl rfl rfl) ?_ | refine awps_stp0 rfl rfl (by decide) (stp_load_elp1 rfl tf_S_api_Bind rfl) ?_ | refine awps_stp0 rfl rfl (by decide) (stp_load_elpn rfl tf_S_api_Bind rfl rfl rfl) ?_
  first | refine awps_stp0 rfl rfl (by decide) (stp_load rfl tf_string rfl rfl rfl rfl rfl) ?_ | refine awps_stp0 rfl rfl (by decide) (stp_load_elp1 rfl tf_string rfl) ?_ | refine awps_stp0 rfl rfl (by decide) (stp_load_elpn rfl tf_string rfl rfl rfl) ?_
  refine awps_call (avs := [_, _]) false rfl rfl rfl (by decide) en_bind_find rfl rfl (find_ok l s hok.ris (by omega)) rfl rfl ?_
  refine awps_stp0 rfl rfl (by decide) (stp_move (.inl rfl) rfl) ?_
  refine awps_stp0 rfl rfl (by decide) (stp_extract rfl rfl rfl) ?_
  refine awps_stp0 rfl rfl (by decide) (stp_extract rfl rfl rfl) ?_
  refine awps_stp0 rfl rfl (by decide) (stp_move (.inr rfl) rfl) ?_
  refine awps_stp0 rfl rfl (by decide) (stp_move (.inr rfl) rfl) ?_
  refine awps_nil ?_
  refine thenQ_nil ?_
  refine awp_seq ?_
  refine awp_region ?_
  refine awps_stp0 rfl rfl (by decide) (stp_move (.inl rfl) rfl) ?_
  refine awps_stp0 rfl rfl (by decide) (stp_move (.inl rfl) rfl) ?_
  refine awps_split 32 rfl (fun g32 => ?_) (fun g32 => ?_)
  · try simp only [↓str_beq_t, ↓str_beq_f, decide_eq_true_eq, decide_eq_false_iff_not, Bool.not_eq_true', Bool.not_eq_false', Int.not_lt, Int.not_le, beq_iff_eq, beq_eq_false_iff_ne, bne_iff_ne, bne_eq_false_iff_eq, ne_eq] at g32
    refine awps_gs rfl rfl rfl rfl (by decide) rfl (by decide) ?_
    refine awps_gs rfl rfl rfl rfl (by decide) rfl (by decide) ?_
    try refine awps_rowd 34 false 1 rfl rfl rfl rfl ?_
    refine awps_gs rfl rfl rfl rfl (by decide) rfl (by decide) ?_
    refine awps_gs rfl rfl rfl rfl (by decide) rfl (by decide) ?_
    refine awps_sub (sub_untag hQ) ?_
    refine awps_gs rfl rfl rfl rfl (by decide) rfl (by decide) ?_
    refine awps_stp0 rfl rfl (by decide) (stp_pick rfl rfl rfl) ?_
    refine awps_nil ?_
    refine thenQ_nil ?_
    refine awp_condT rfl ?_
    refine awp_seq ?_
    refine awp_region ?_
    refine awps_stp0 rfl rfl (by decide) (stp_move (.inr rfl) rfl) ?_
    refine awps_stp0 rfl rfl (by decide) (stp_move (.inr rfl) rfl) ?_
    refine awps_nil ?_
    refine thenQ_nil ?_
    refine awp_ret ?_
    refine thenQ_ret (?_)
    -- leaf g14Fg19F0Fg32T
    refine ret0 (noL hL) (.inl rfl) (resAs_tmp rfl (resAs_tmp rfl (resAs_nil))) ?_ ?_
    · rfl
    first | exact ⟨.inl ⟨by simp_all [setC], rfl⟩, rfl⟩ | exact ⟨.inr (by rw [setL, setE, if_pos hsc, if_pos hsc]; rfl), rfl⟩
  try simp only [↓str_beq_t, ↓str_beq_f, decide_eq_true_eq, decide_eq_false_iff_not, Bool.not_eq_true', Bool.not_eq_false', Int.not_lt, Int.not_le, beq_iff_eq, beq_eq_false_iff_ne, bne_iff_ne, bne_eq_false_iff_eq, ne_eq] at g32
  first | refine awps_g0 rfl rfl rfl (by decide) rfl (by decide) (stp_load_all rfl tf_api_Term rfl rfl rfl rfl) ?_ | refine awps_g0 rfl rfl rfl (by decide) rfl (by decide) (stp_load rfl tf_api_Term rfl rfl rfl rfl rfl) ?_ | refine awps_g0 rfl rfl rfl (by decide) rfl (by decide) (stp_load_elpa rfl tf_api_Term rfl rfl) ?_ | refine awps_g0 rfl rfl rfl (by decide) rfl (by decide) (stp_load_elpn rfl tf_api_Term rfl rfl rfl) ?_
  refine awps_g1 rfl rfl rfl (by decide) rfl (by decide) (stp_buildSlice 34 rfl sl_S_api_Term zv_api_Term rfl rfl (by decide) (by decide) (by decide) rfl rfl rfl) rfl ?_
  try refine awps_rowd 34 false 1 rfl rfl rfl rfl ?_
  refine awps_gcallP (avs := [_]) true rfl rfl rfl (by decide) rfl rfl (by decide) en_term_Names rfl rfl (hnm) (rfl) (passO .nil) (by rintro r O' ⟨_, rfl⟩; exact frB rfl) (by rintro - r O' ⟨⟨L, _, _, rfl⟩, rfl⟩; exact ⟨rfl, rfl⟩) ?_
  rintro r O' ⟨⟨L, g1, g2, rfl⟩, rfl⟩
  have hLl := rising_len g1 g2
  refine awps_g0 rfl rfl rfl (by decide) rfl (by decide) (stp_move (.inl rfl) rfl) ?_
  refine awps_sub (sub_untag hQ) ?_
  refine awps_gcallP (avs := [_, _]) false rfl rfl rfl (by decide) rfl rfl (by decide) en_slices_ContainsFunc_string_string rfl rfl (ContainsFunc_st_ok false L _ rfl (by simp only [noteL] at hLl; simp only [List.length_nil, List.map_cons, List.map_nil, List.sum_cons, List.sum_nil] at hnl; omega) _ [.ptr 3 0, .ptr 4 0] en_bind_Set_1 (fun _ => [(3, .box [bdA l]), (4, .box [sv s])]) (fun k => match L[k]? with | some n => setP l s n | none => false) ⟨fun k l => rfl, fun k => passO (.cons rfl trivial rfl (.cons rfl trivial rfl .nil)), fun k => rfl, fun k => rfl, fun k => rfl, fun k => rfl, fun h => by cases h⟩ (fun k n hn _ => by rw [hn]; exact Set1_ok l hok s n)) (rfl) (passO (.cons rfl trivial rfl (.cons rfl trivial rfl .nil))) (by rintro r O' ⟨m, n, b, _, _, _, _, rfl⟩; exact frB rfl) (by rintro h; cases h) ?_
  rintro r O' ⟨m, n, b, hm1, hf1, hc, rfl, rfl⟩
  have hany := any_found g2 hf1 hc
  refine awps_stp0 rfl rfl (by decide) (stp_pick rfl rfl rfl) ?_
  refine awps_nil ?_
  refine thenQ_nil ?_
  refine awp_cond rfl (fun c1 => ?_) (fun c1 => ?_)
  · try simp only [↓str_beq_t, ↓str_beq_f, decide_eq_true_eq, decide_eq_false_iff_not, Bool.not_eq_true', Bool.not_eq_false', Int.not_lt, Int.not_le, beq_iff_eq, beq_eq_false_iff_ne, bne_iff_ne, bne_eq_false_iff_eq, ne_eq] at c1
    refine awp_seq ?_
    refine awp_region ?_
    refine awps_stp0 rfl rfl (by decide) (stp_move (.inr rfl) rfl) ?_
    refine awps_stp0 rfl rfl (by decide) (stp_move (.inr rfl) rfl) ?_
    refine awps_nil ?_
    refine thenQ_nil ?_
    refine awp_ret ?_
    refine thenQ_ret (?_)
    -- leaf g14Fg19F0Fg32F1T
    refine ret0 (noL hL) (.inl rfl) (resAs_tmp rfl (resAs_tmp rfl (resAs_nil))) ?_ ?_
    · rfl
    first | exact ⟨.inl ⟨by simp_all [setC], rfl⟩, rfl⟩ | exact ⟨.inr (by rw [setL, setE, if_pos hsc, if_pos hsc]; rfl), rfl⟩
  try simp only [↓str_beq_t, ↓str_beq_f, decide_eq_true_eq, decide_eq_false_iff_not, Bool.not_eq_true', Bool.not_eq_false', Int.not_lt, Int.not_le, beq_iff_eq, beq_eq_false_iff_ne, bne_iff_ne, bne_eq_false_iff_eq, ne_eq] at c1
  have hsc : setC l s t = true := by simp_all [setC]
  refine awp_skip ?_
  refine thenQ_nil ?_
  refine awp_seq ?_
  refine awp_region ?_
  first | refine awps_stp0 rfl rfl (by decide) (stp_load rfl tf_S_api_Bind rfl rfl rfl rfl rfl) ?_ | refine awps_stp0 rfl rfl (by decide) (stp_load_elp1 rfl tf_S_api_Bind rfl) ?_ | refine awps_stp0 rfl rfl (by decide) (stp_load_elpn rfl tf_S_api_Bind rfl rfl rfl) ?_
  first | refine awps_stp0 rfl rfl (by decide) (stp_load rfl tf_string rfl rfl rfl rfl rfl) ?_ | refine awps_stp0 rfl rfl (by decide) (stp_load_elp1 rfl tf_string rfl) ?_ | refine awps_stp0 rfl rfl (by decide) (stp_load_elpn rfl tf_string rfl rfl rfl) ?_
  first | refine awps_stp0 rfl rfl (by decide) (stp_load_all rfl tf_api_Term rfl rfl rfl rfl) ?_ | refine awps_stp0 rfl rfl (by decide) (stp_load rfl tf_api_Term rfl rfl rfl rfl rfl) ?_ | refine awps_stp0 rfl rfl (by decide) (stp_load_elpa rfl tf_api_Term rfl rfl) ?_ | refine awps_stp0 rfl rfl (by decide) (stp_load_elpn rfl tf_api_Term rfl rfl rfl) ?_
  refine awps_call (avs := [_, _, _]) false rfl rfl rfl (by decide) en_bind_Stand rfl rfl (Stand_ok l hok s hs t ht hmt) rfl rfl ?_
  refine awps_stp0 rfl rfl (by decide) (stp_extract rfl rfl rfl) ?_
  refine awps_stp0 rfl rfl (by decide) (stp_extract rfl rfl rfl) ?_
  refine awps_stp0 rfl rfl (by decide) (stp_move (.inr rfl) rfl) ?_
  refine awps_stp0 rfl rfl (by decide) (stp_move (.inr rfl) rfl) ?_
  refine awps_nil ?_
  refine thenQ_nil ?_
  refine awp_ret ?_
  -- leaf g14Fg19F0Fg32F1F
  refine ret0 (noL hL) (.inl rfl) (resAs_tmp rfl (resAs_tmp rfl (resAs_nil))) ?_ ?_
  · rfl
  first | exact ⟨.inl ⟨by simp_all [setC], rfl⟩, rfl⟩ | exact ⟨.inr (by rw [setL, setE, if_pos hsc, if_pos hsc]; rfl), rfl⟩
def occB (t : Tm) (s : ByteArray) : Bool := (noteL 5 [t]).any (fun n => decide (n = s))
def standsL (l : List Bd) (s : ByteArray) (t : Tm) : List Bd := if occB t s = true then [] else standL l s t
def standsE (l : List Bd) (s : ByteArray) (t : Tm) : Int := if occB t s = true then 3 else standE l s t
end Go.Proofs.Ytdecgkhdbfgldaa

set_option linter.unusedVariables false
set_option linter.unusedSimpArgs false
set_option maxRecDepth 8000
namespace Go.Proofs.Ytdecgkhdbfgldaa
open Go
def argsB (a b : Tm) : Bool := decide (a.kind = b.kind) && decide (a.name = b.name) && decide (a.n = b.n) && decide (a.args.length = b.args.length)
def argsL (a b : Tm) : List (Tm × Tm) := if argsB a b = true then a.args.zip b.args else []
end Go.Proofs.Ytdecgkhdbfgldaa

set_option linter.unusedVariables false
set_option linter.unusedSimpArgs false
set_option maxRecDepth 8000
namespace Go.Proofs.Ytdecgkhdbfgldaa
open Go
def oneR (l : List Bd) (p : Tm × Tm) : List Bd × List (Tm × Tm) × Int :=
  if intoE l p.1 ≠ 0 then ([], [], intoE l p.1) else
  if intoE l p.2 ≠ 0 then ([], [], intoE l p.2) else
  if (putT l p.1).kind = 1 ∧ (putT l p.2).kind = 1 ∧ (putT l p.1).name = (putT l p.2).name then (l, [], 0) else
  if (putT l p.1).kind = 1 ∧ ((putT l p.2).kind ≠ 1 ∨ ltS (putT l p.2).name (putT l p.1).name = true) then (standsL l (putT l p.1).name (putT l p.2), [], standsE l (putT l p.1).name (putT l p.2)) else
  if (putT l p.2).kind = 1 then (standsL l (putT l p.2).name (putT l p.1), [], standsE l (putT l p.2).name (putT l p.1)) else
  if argsB (putT l p.1) (putT l p.2) = true then (l, argsL (putT l p.1) (putT l p.2), 0) else ([], [], 3)
end Go.Proofs.Ytdecgkhdbfgldaa

set_option linter.unusedVariables false
set_option linter.unusedSimpArgs false
namespace Go.Proofs.Ytdecgkhdbfgldaa
open Go
mutual
def Tm.sub (g : ByteArray → Tm) : Tm → Tm
  | ⟨k, nm, n, l0⟩ => if k = 1 then g nm else ⟨k, nm, n, Tm.subs g l0⟩
def Tm.subs (g : ByteArray → Tm) : List Tm → List Tm
  | [] => []
  | t :: ts => Tm.sub g t :: Tm.subs g ts
end
mutual
def Tm.occ (y : ByteArray) : Tm → Prop
  | ⟨k, nm, _, l0⟩ => (k = 1 ∧ nm = y) ∨ Tm.occs y l0
def Tm.occs (y : ByteArray) : List Tm → Prop
  | [] => False
  | t :: ts => Tm.occ y t ∨ Tm.occs y ts
end
mutual
def Tm.sz : Tm → Nat
  | ⟨_, _, _, l0⟩ => 1 + Tm.szs l0
def Tm.szs : List Tm → Nat
  | [] => 0
  | t :: ts => Tm.sz t + Tm.szs ts
end
mutual
def Tm.shp : Tm → Prop
  | ⟨k, nm, n, l0⟩ => ((k = 1 ∧ varB nm = true ∧ n = 0 ∧ l0 = []) ∨ (k = 2 ∧ numB n = true ∧ nm.size = 0 ∧ l0 = []) ∨ (k = 3 ∧ nameB nm = true ∧ n = 0 ∧ l0.length ≤ 4)) ∧ Tm.shps l0
def Tm.shps : List Tm → Prop
  | [] => True
  | t :: ts => Tm.shp t ∧ Tm.shps ts
end
theorem Tm.subs_map (g : ByteArray → Tm) : ∀ l, Tm.subs g l = l.map (Tm.sub g)
  | [] => by rw [Tm.subs]; rfl
  | t :: ts => by rw [Tm.subs, Tm.subs_map g ts]; rfl
theorem Tm.sub_eq (g : ByteArray → Tm) (t : Tm) : t.sub g = if t.kind = 1 then g t.name else ⟨t.kind, t.name, t.n, t.args.map (Tm.sub g)⟩ := by
  cases t; simp only [Tm.sub, Tm.subs_map]
theorem Tm.occs_iff (y : ByteArray) : ∀ l, Tm.occs y l ↔ ∃ u ∈ l, Tm.occ y u
  | [] => by simp [Tm.occs]
  | t :: ts => by simp [Tm.occs, Tm.occs_iff y ts]
theorem Tm.occ_iff (y : ByteArray) (t : Tm) : t.occ y ↔ (t.kind = 1 ∧ t.name = y) ∨ ∃ u ∈ t.args, Tm.occ y u := by
  cases t; simp only [Tm.occ, Tm.occs_iff]
theorem Tm.szs_sum : ∀ l, Tm.szs l = (l.map Tm.sz).sum
  | [] => by simp [Tm.szs]
  | t :: ts => by simp [Tm.szs, Tm.szs_sum ts]
theorem Tm.sz_eq (t : Tm) : t.sz = 1 + (t.args.map Tm.sz).sum := by cases t; simp only [Tm.sz, Tm.szs_sum]
theorem Tm.sz_pos (t : Tm) : 1 ≤ t.sz := by rw [Tm.sz_eq]; omega
theorem Tm.shps_iff : ∀ l, Tm.shps l ↔ ∀ u ∈ l, Tm.shp u
  | [] => by simp [Tm.shps]
  | t :: ts => by simp [Tm.shps, Tm.shps_iff ts]
def Tm.top (t : Tm) : Prop := (t.kind = 1 ∧ varB t.name = true ∧ t.n = 0 ∧ t.args = []) ∨ (t.kind = 2 ∧ numB t.n = true ∧ t.name.size = 0 ∧ t.args = []) ∨ (t.kind = 3 ∧ nameB t.name = true ∧ t.n = 0 ∧ t.args.length ≤ 4)
theorem Tm.shp_iff (t : Tm) : t.shp ↔ t.top ∧ ∀ u ∈ t.args, Tm.shp u := by cases t; simp only [Tm.shp, Tm.shps_iff, Tm.top]
theorem Tm.ind {P : Tm → Prop} (h : ∀ t : Tm, (∀ u ∈ t.args, P u) → P t) (t : Tm) : P t :=
  Tm.rec (motive_1 := P) (motive_2 := fun ts => ∀ u ∈ ts, P u) (fun k nm n l0 ih => h ⟨k, nm, n, l0⟩ ih) (fun u hu => by cases hu) (fun t ts h1 h2 u hu => by
    rcases List.mem_cons.1 hu with e | hu
    · exact e ▸ h1
    · exact h2 u hu) t
theorem Tm.shp.arg {t u : Tm} (h : t.shp) (hu : u ∈ t.args) : u.shp := ((Tm.shp_iff t).1 h).2 u hu
theorem Tm.shp.var {t : Tm} (h : t.shp) (hk : t.kind = 1) : t = ⟨1, t.name, 0, []⟩ ∧ varB t.name = true := by
  have := ((Tm.shp_iff t).1 h).1
  cases t
  simp only [Tm.top] at this hk ⊢
  subst hk
  rcases this with ⟨_, h2, h3, h4⟩ | ⟨h1, _⟩ | ⟨h1, _⟩
  · subst h3 h4; exact ⟨rfl, h2⟩
  · cases h1
  · cases h1
theorem turn_sub (g : ByteArray → Tm) : ∀ (d : Nat) (t : Tm), dle d t → turnT g d t = t.sub g
  | 0, t, h => h.elim
  | d + 1, t, h => by
    rw [turnT, Tm.sub_eq]
    split
    · rfl
    · congr 1
      exact List.map_congr_left fun u hu => turn_sub g d u (h u hu)
theorem note_occ (y : ByteArray) : ∀ (d : Nat) (t : Tm), dle d t → (y ∈ noteS d t [] ↔ t.occ y)
  | 0, t, h => h.elim
  | d + 1, t, h => by
    rw [noteS, noteL_mem d y (noteS_mem d y), Tm.occ_iff]
    have e : (∃ u, u ∈ t.args ∧ y ∈ noteS d u []) ↔ ∃ u ∈ t.args, Tm.occ y u := by
      constructor
      · rintro ⟨u, hu, hy⟩; exact ⟨u, hu, (note_occ y d u (h u hu)).1 hy⟩
      · rintro ⟨u, hu, hy⟩; exact ⟨u, hu, (note_occ y d u (h u hu)).2 hy⟩
    rw [e]
    split
    · rename_i hk; simp [hk, eq_comm]
    · rename_i hk; simp [hk]
theorem dle_mono : ∀ (d e : Nat) (t : Tm), d ≤ e → dle d t → dle e t
  | 0, _, t, _, h => h.elim
  | d + 1, 0, t, h, _ => by omega
  | d + 1, e + 1, t, h, hd => fun u hu => dle_mono d e u (by omega) (hd u hu)
theorem mayL_fwd (d : Nat) (ih : ∀ (t : Tm) (n : Int), 0 ≤ n → (mayS d t n).1 = true → t.shp ∧ dle d t ∧ (mayS d t n).2 = n - t.sz ∧ (t.sz : Int) ≤ n) : ∀ (l : List Tm) (n : Int), 0 ≤ n → (mayL (mayS d) l n).1 = true → (∀ u ∈ l, u.shp ∧ dle d u) ∧ (mayL (mayS d) l n).2 = n - ((l.map Tm.sz).sum : Nat) ∧ (((l.map Tm.sz).sum : Nat) : Int) ≤ n
  | [], n, hn, _ => by simp [mayL]; omega
  | a :: l, n, hn, h => by
    simp only [mayL] at h ⊢
    split at h
    · rename_i hb
      obtain ⟨h1, h2, h3, h4⟩ := ih a n hn hb
      obtain ⟨h5, h6, h7⟩ := mayL_fwd d ih l (mayS d a n).2 (by omega) h
      rw [if_pos hb]
      refine ⟨fun u hu => ?_, ?_, ?_⟩
      · rcases List.mem_cons.1 hu with rfl | hu
        · exact ⟨h1, h2⟩
        · exact h5 u hu
      · rw [h6, h3]; simp only [List.map_cons, List.sum_cons]; omega
      · simp only [List.map_cons, List.sum_cons]; omega
    · cases h
theorem mayS_fwd : ∀ (d : Nat) (t : Tm) (n : Int), 0 ≤ n → (mayS d t n).1 = true → t.shp ∧ dle d t ∧ (mayS d t n).2 = n - t.sz ∧ (t.sz : Int) ≤ n
  | 0, t, n, _, h => by simp [mayS] at h
  | d + 1, t, n, hn0, h => by
    rw [Tm.shp_iff, Tm.sz_eq]
    have e0 : ∀ l : List Tm, l.length = 0 → l = [] := fun l h => List.eq_nil_of_length_eq_zero h
    simp only [mayS] at h ⊢
    split at h
    · cases h
    rename_i hn
    rw [if_neg hn]
    split at h
    · rename_i hk
      rw [if_pos hk]
      simp only [Bool.and_eq_true, decide_eq_true_eq] at h
      have := e0 _ h.2
      refine ⟨⟨.inl ⟨hk, h.1.1, h.1.2, this⟩, by simp [this]⟩, fun u hu => by simp [this] at hu, ?_, ?_⟩ <;> simp [this] <;> omega
    rename_i hk1
    rw [if_neg hk1]
    split at h
    · rename_i hk
      rw [if_pos hk]
      simp only [Bool.and_eq_true, decide_eq_true_eq] at h
      have := e0 _ h.2
      refine ⟨⟨.inr (.inl ⟨hk, h.1.1, h.1.2, this⟩), by simp [this]⟩, fun u hu => by simp [this] at hu, ?_, ?_⟩ <;> simp [this] <;> omega
    rename_i hk2
    rw [if_neg hk2]
    split at h
    · rename_i hk
      rw [if_pos hk]
      split at h
      · rename_i hc
        rw [if_pos hc]
        obtain ⟨h5, h6, h7⟩ := mayL_fwd d (mayS_fwd d) t.args (n - 1) (by omega) h
        simp only [Bool.and_eq_true, decide_eq_true_eq] at hc
        refine ⟨⟨.inr (.inr ⟨hk, hc.1.1, hc.1.2, hc.2⟩), fun u hu => (h5 u hu).1⟩, fun u hu => (h5 u hu).2, ?_, ?_⟩
        · rw [h6]; omega
        · omega
      · cases h
    · cases h
theorem mayL_bwd (d : Nat) (ih : ∀ (t : Tm) (n : Int), t.shp → dle d t → (t.sz : Int) ≤ n → mayS d t n = (true, n - t.sz)) : ∀ (l : List Tm) (n : Int), (∀ u ∈ l, u.shp ∧ dle d u) → (((l.map Tm.sz).sum : Nat) : Int) ≤ n → mayL (mayS d) l n = (true, n - ((l.map Tm.sz).sum : Nat))
  | [], n, _, _ => by simp [mayL]
  | a :: l, n, h, hn => by
    simp only [List.map_cons, List.sum_cons] at hn ⊢
    have h1 := ih a n (h a (by simp)).1 (h a (by simp)).2 (by omega)
    have h2 := mayL_bwd d ih l (n - a.sz) (fun u hu => h u (by simp [hu])) (by omega)
    simp only [mayL, h1, if_true, h2]
    congr 1; omega
theorem mayS_bwd : ∀ (d : Nat) (t : Tm) (n : Int), t.shp → dle d t → (t.sz : Int) ≤ n → mayS d t n = (true, n - t.sz)
  | 0, t, n, _, h, _ => h.elim
  | d + 1, t, n, hs, hd, hn => by
    rw [Tm.shp_iff] at hs
    rw [Tm.sz_eq] at hn ⊢
    obtain ⟨ht, hs⟩ := hs
    simp only [mayS]
    rw [if_neg (by omega)]
    rcases ht with ⟨h1, h2, h3, h4⟩ | ⟨h1, h2, h3, h4⟩ | ⟨h1, h2, h3, h4⟩
    · rw [if_pos h1, h2, h3, h4]; simp
    · rw [if_neg (by omega), if_pos h1, h2, h3, h4]; simp
    · rw [if_neg (by omega), if_neg (by omega), if_pos h1, if_pos (by simp [h2, h3, h4])]
      rw [mayL_bwd d (mayS_bwd d) t.args (n - 1) (fun u hu => ⟨hs u hu, hd u hu⟩) (by omega)]
      congr 1; omega
theorem mayT_iff (t : Tm) : mayT t = true ↔ t.shp ∧ dle 5 t ∧ t.sz ≤ 24 := by
  constructor
  · intro h
    obtain ⟨h1, h2, h3, h4⟩ := mayS_fwd 5 t 24 (by omega) h
    exact ⟨h1, h2, by omega⟩
  · rintro ⟨h1, h2, h3⟩
    show (mayS 5 t 24).1 = true
    rw [mayS_bwd 5 t 24 h1 h2 (by omega)]
def varT (s : ByteArray) : Tm := ⟨1, s, 0, []⟩
theorem sub_congr {g h : ByteArray → Tm} (t : Tm) : (∀ y, t.occ y → g y = h y) → t.sub g = t.sub h := by
  refine Tm.ind (P := fun t => (∀ y, t.occ y → g y = h y) → t.sub g = t.sub h) (fun t ih hy => ?_) t
  rw [Tm.sub_eq, Tm.sub_eq]
  split
  · rename_i hk; exact hy _ ((Tm.occ_iff _ _).2 (.inl ⟨hk, rfl⟩))
  · congr 1
    exact List.map_congr_left fun u hu => ih u hu fun y hu2 => hy y ((Tm.occ_iff _ _).2 (.inr ⟨u, hu, hu2⟩))
theorem sub_varT {t : Tm} (hs : t.shp) : t.sub varT = t := by
  refine Tm.ind (P := fun t => t.shp → t.sub varT = t) (fun t ih hs => ?_) t hs
  rw [Tm.sub_eq]
  split
  · rename_i hk; rw [(hs.var hk).1]; rfl
  · have : t.args.map (Tm.sub varT) = t.args := by
      have h2 : t.args.map (Tm.sub varT) = t.args.map id := List.map_congr_left fun u hu => ih u hu (hs.arg hu)
      rw [h2, List.map_id]
    rw [this]
    cases t; rfl
theorem sub_id {g : ByteArray → Tm} {t : Tm} (hs : t.shp) (h : ∀ y, t.occ y → g y = varT y) : t.sub g = t := by
  rw [sub_congr t h, sub_varT hs]
theorem sub_sub (g h : ByteArray → Tm) (t : Tm) : (t.sub g).sub h = t.sub (fun y => (g y).sub h) := by
  refine Tm.ind (P := fun t => (t.sub g).sub h = t.sub (fun y => (g y).sub h)) (fun t ih => ?_) t
  rw [Tm.sub_eq g, Tm.sub_eq (fun y => (g y).sub h)]
  split
  · rfl
  · rename_i hk
    rw [Tm.sub_eq h, if_neg hk]
    congr 1
    rw [List.map_map]
    exact List.map_congr_left fun u hu => ih u hu
theorem occ_sub (g : ByteArray → Tm) (y : ByteArray) (t : Tm) (hs : t.shp) : (t.sub g).occ y ↔ ∃ x, t.occ x ∧ (g x).occ y := by
  refine Tm.ind (P := fun t => t.shp → ((t.sub g).occ y ↔ ∃ x, t.occ x ∧ (g x).occ y)) (fun t ih hs => ?_) t hs
  rw [Tm.sub_eq]
  split
  · rename_i hk
    constructor
    · intro h; exact ⟨t.name, (Tm.occ_iff _ _).2 (.inl ⟨hk, rfl⟩), h⟩
    · rintro ⟨x, hx, h⟩
      rw [Tm.occ_iff] at hx
      rcases hx with ⟨_, rfl⟩ | ⟨u, hu, _⟩
      · exact h
      · rw [(hs.var hk).1] at hu; cases hu
  · rename_i hk
    rw [Tm.occ_iff]
    constructor
    · rintro (⟨h, _⟩ | ⟨u, hu, h⟩)
      · exact absurd h hk
      · obtain ⟨v, hv, rfl⟩ := List.mem_map.1 hu
        obtain ⟨x, hx, h2⟩ := (ih v hv (hs.arg hv)).1 h
        exact ⟨x, (Tm.occ_iff _ _).2 (.inr ⟨v, hv, hx⟩), h2⟩
    · rintro ⟨x, hx, h⟩
      rw [Tm.occ_iff] at hx
      rcases hx with ⟨h, _⟩ | ⟨u, hu, h2⟩
      · exact absurd h hk
      · exact .inr ⟨u.sub g, List.mem_map.2 ⟨u, hu, rfl⟩, (ih u hu (hs.arg hu)).2 ⟨x, h2, h⟩⟩
theorem shp_sub {g : ByteArray → Tm} {t : Tm} (hs : t.shp) (h : ∀ y, t.occ y → (g y).shp) : (t.sub g).shp := by
  refine Tm.ind (P := fun t => t.shp → (∀ y, t.occ y → (g y).shp) → (t.sub g).shp) (fun t ih hs h => ?_) t hs h
  rw [Tm.sub_eq]
  split
  · rename_i hk; exact h _ ((Tm.occ_iff _ _).2 (.inl ⟨hk, rfl⟩))
  · rename_i hk
    rw [Tm.shp_iff] at hs ⊢
    refine ⟨?_, fun u hu => ?_⟩
    · have := hs.1
      simp only [Tm.top, List.length_map, List.map_eq_nil_iff] at this ⊢
      exact this
    · obtain ⟨v, hv, rfl⟩ := List.mem_map.1 hu
      exact ih v hv (hs.2 v hv) fun y hy => h y ((Tm.occ_iff _ _).2 (.inr ⟨v, hv, hy⟩))
theorem sz_occ {x : ByteArray} (g : ByteArray → Tm) {t : Tm} (hs : t.shp) (h : t.occ x) : (g x).sz ≤ (t.sub g).sz ∧ (t.kind ≠ 1 → (g x).sz < (t.sub g).sz) := by
  refine Tm.ind (P := fun t => t.shp → t.occ x → (g x).sz ≤ (t.sub g).sz ∧ (t.kind ≠ 1 → (g x).sz < (t.sub g).sz)) (fun t ih hs h => ?_) t hs h
  rw [Tm.occ_iff] at h
  rw [Tm.sub_eq]
  split
  · rename_i hk
    refine ⟨?_, fun h2 => absurd hk h2⟩
    rcases h with ⟨_, rfl⟩ | ⟨u, hu, _⟩
    · exact Nat.le_refl _
    · rw [(hs.var hk).1] at hu; cases hu
  · rename_i hk
    rcases h with ⟨h, _⟩ | ⟨u, hu, h⟩
    · exact absurd h hk
    · have h1 := (ih u hu (hs.arg hu) h).1
      have h2 : (u.sub g).sz < (Tm.mk t.kind t.name t.n (t.args.map (Tm.sub g))).sz := by
        rw [Tm.sz_eq (Tm.mk _ _ _ _)]
        simp only [List.map_map]
        obtain ⟨i, hi⟩ := List.getElem?_of_mem hu
        have := sum_split (l := t.args) (k := i) (u := u) (Tm.sz ∘ Tm.sub g) hi
        simp only [Function.comp] at this ⊢
        omega
      exact ⟨by omega, fun _ => by omega⟩
end Go.Proofs.Ytdecgkhdbfgldaa

set_option linter.unusedVariables false
set_option linter.unusedSimpArgs false
namespace Go.Proofs.Ytdecgkhdbfgldaa
open Go
structure GB (l : List Bd) : Prop where
  len : l.length ≤ 16
  ris : RisB l
  el : ∀ b ∈ l, b.wf ∧ varB b.name = true ∧ mayT b.t = true
  idem : ∀ b ∈ l, ∀ y, b.t.occ y → hasB l y = false
theorem GB.bok {l : List Bd} (h : GB l) : BOk l := ⟨h.ris, by have := h.len; omega, fun b hb => ⟨(h.el b hb).1, (h.el b hb).2.2⟩⟩
theorem hasB_iff (l : List Bd) (y : ByteArray) : hasB l y = true ↔ ∃ b ∈ l, b.name = y := by simp [hasB]
theorem hasB_no (l : List Bd) (y : ByteArray) : hasB l y = false ↔ ∀ b ∈ l, b.name ≠ y := by simp [hasB]
theorem may_dle {t : Tm} (h : mayT t = true) : dle 5 t := ((mayT_iff t).1 h).2.1
theorem may_shp {t : Tm} (h : mayT t = true) : t.shp := ((mayT_iff t).1 h).1
theorem note5 {t : Tm} (h : dle 5 t) (y : ByteArray) : y ∈ noteL 5 [t] ↔ t.occ y := note_occ y 5 t h
theorem noteL5 {l : List Tm} (h : ∀ t ∈ l, dle 5 t) (y : ByteArray) : y ∈ noteL 5 l ↔ ∃ t ∈ l, Tm.occ y t := by
  rw [noteL, noteL_mem 5 y (noteS_mem 5 y)]
  constructor
  · rintro (h1 | ⟨u, hu, hy⟩)
    · cases h1
    · exact ⟨u, hu, (note_occ y 5 u (h u hu)).1 hy⟩
  · rintro ⟨u, hu, hy⟩; exact .inr ⟨u, hu, (note_occ y 5 u (h u hu)).2 hy⟩
theorem mayB_iff {l : List Bd} (hw : ∀ b ∈ l, b.wf) : mayB l = true ↔ GB l := by
  constructor
  · intro h
    have hb := mayB_bok h hw
    simp only [mayB, Bool.and_eq_true, decide_eq_true_eq, List.all_eq_true, List.mem_range, Bool.not_eq_true'] at h
    refine ⟨h.1.1, hb.ris, fun b hm => ⟨hw b hm, ?_, (hb.el b hm).2⟩, fun b hm y hy => ?_⟩
    · obtain ⟨j, hj⟩ := List.getElem?_of_mem hm
      have := h.1.2 j (List.getElem?_eq_some_iff.1 hj).1
      simp only [stepB, hj, Bool.and_eq_true] at this
      exact this.1.1
    · have hd : ∀ t ∈ l.map Bd.t, dle 5 t := fun t ht => by obtain ⟨b, hb2, rfl⟩ := List.mem_map.1 ht; exact may_dle (hb.el b hb2).2
      cases hc : hasB l y with
      | false => rfl
      | true =>
        have := List.any_eq_false.1 h.2 y ((noteL5 hd y).2 ⟨b.t, List.mem_map.2 ⟨b, hm, rfl⟩, hy⟩)
        exact absurd hc this
  · intro h
    have hd : ∀ t ∈ l.map Bd.t, dle 5 t := fun t ht => by obtain ⟨b, hb2, rfl⟩ := List.mem_map.1 ht; exact may_dle (h.el b hb2).2.2
    simp only [mayB, Bool.and_eq_true, decide_eq_true_eq, List.all_eq_true, List.mem_range, Bool.not_eq_true']
    refine ⟨⟨h.len, fun j hj => ?_⟩, List.any_eq_false.2 fun y hy => ?_⟩
    · obtain ⟨b, hb⟩ := get_of_lt (l := l) (k := j) hj
      have hbm := List.mem_of_getElem? hb
      rw [stepB_get hb, (h.el b hbm).2.1, (h.el b hbm).2.2]
      rcases Nat.eq_zero_or_pos j with rfl | hj0
      · simp
      · obtain ⟨a, ha⟩ := get_of_lt (l := l) (k := j - 1) (by omega)
        rw [ha]
        have := List.pairwise_iff_getElem.1 h.ris (j - 1) j (by omega) hj (by omega)
        rw [(List.getElem?_eq_some_iff.1 ha).2, (List.getElem?_eq_some_iff.1 hb).2] at this
        simp [this]
    · obtain ⟨t, ht, ho⟩ := (noteL5 hd y).1 hy
      obtain ⟨b, hb2, rfl⟩ := List.mem_map.1 ht
      rw [h.idem b hb2 y ho]; simp
theorem gB_mem {l : List Bd} (h : RisB l) {b : Bd} (hb : b ∈ l) : gB l b.name = b.t := by
  have key : ∀ l : List Bd, RisB l → b ∈ l → l.find? (fun c => decide (c.name = b.name)) = some b := fun l => by
    induction l with
    | nil => intro _ h; cases h
    | cons a l ih =>
      intro hr hm
      rcases List.mem_cons.1 hm with rfl | hm
      · simp
      · have h1 := List.pairwise_cons.1 hr
        have h2 := h1.1 b hm
        have hne : a.name ≠ b.name := fun e => by rw [e, ltS_irrefl] at h2; cases h2
        rw [List.find?_cons_of_neg (by simpa using hne)]
        exact ih h1.2 hm
  rw [gB, lookB, key l h hb]; rfl
theorem gB_none {l : List Bd} (h : RisB l) {y : ByteArray} (hy : hasB l y = false) : gB l y = varT y := by
  rw [gB, lookB_none h hy]; rfl
theorem gB_cases {l : List Bd} (h : RisB l) (y : ByteArray) : (∃ b ∈ l, b.name = y ∧ gB l y = b.t) ∨ hasB l y = false ∧ gB l y = varT y := by
  cases hc : hasB l y with
  | false => exact .inr ⟨rfl, gB_none h hc⟩
  | true =>
    obtain ⟨b, hb, rfl⟩ := (hasB_iff l y).1 hc
    exact .inl ⟨b, hb, rfl, gB_mem h hb⟩
theorem putT_sub {t : Tm} (h : dle 5 t) (l : List Bd) : putT l t = t.sub (gB l) := turn_sub _ 5 t h
theorem varT_sub (g : ByteArray → Tm) (y : ByteArray) : (varT y).sub g = g y := by rw [Tm.sub_eq]; rfl
theorem varT_occ (x y : ByteArray) : (varT x).occ y ↔ x = y := by rw [Tm.occ_iff]; simp [varT]
theorem gB_occ {l : List Bd} (h : GB l) {x y : ByteArray} (ho : (gB l x).occ y) : hasB l y = false := by
  rcases gB_cases h.ris x with ⟨b, hb, _, e⟩ | ⟨hn, e⟩
  · rw [e] at ho; exact h.idem b hb y ho
  · rw [e, varT_occ] at ho; rw [← ho]; exact hn
theorem gB_shp {l : List Bd} (h : GB l) {x : ByteArray} (hx : varB x = true) : (gB l x).shp := by
  rcases gB_cases h.ris x with ⟨b, hb, _, e⟩ | ⟨hn, e⟩
  · rw [e]; exact may_shp (h.el b hb).2.2
  · rw [e, Tm.shp_iff]; exact ⟨.inl ⟨rfl, hx, rfl, rfl⟩, fun u hu => by cases hu⟩
theorem occ_var {t : Tm} (hs : t.shp) {y : ByteArray} (h : t.occ y) : varB y = true := by
  refine Tm.ind (P := fun t => t.shp → t.occ y → varB y = true) (fun t ih hs h => ?_) t hs h
  rw [Tm.occ_iff] at h
  rcases h with ⟨h1, rfl⟩ | ⟨u, hu, h2⟩
  · exact (hs.var h1).2
  · exact ih u hu (hs.arg hu) h2
theorem gB_id {l : List Bd} (h : GB l) {t : Tm} (hs : t.shp) (hn : ∀ y, t.occ y → hasB l y = false) : t.sub (gB l) = t :=
  sub_id hs fun y hy => gB_none h.ris (hn y hy)
theorem gB_idem {l : List Bd} (h : GB l) (y : ByteArray) : (gB l y).sub (gB l) = gB l y := by
  rcases gB_cases h.ris y with ⟨b, hb, _, e⟩ | ⟨hn, e⟩
  · rw [e]; exact gB_id h (may_shp (h.el b hb).2.2) (h.idem b hb)
  · rw [e, varT_sub, e]
theorem ap_idem {l : List Bd} (h : GB l) (t : Tm) : (t.sub (gB l)).sub (gB l) = t.sub (gB l) := by
  rw [sub_sub]; exact sub_congr t fun y _ => gB_idem h y
theorem ap_occ {l : List Bd} (h : GB l) {t : Tm} (hs : t.shp) {y : ByteArray} (ho : (t.sub (gB l)).occ y) : hasB l y = false := by
  obtain ⟨x, _, hx⟩ := (occ_sub _ y t hs).1 ho
  exact gB_occ h hx
theorem ap_shp {l : List Bd} (h : GB l) {t : Tm} (hs : t.shp) : (t.sub (gB l)).shp := shp_sub hs fun y hy => gB_shp h (occ_var hs hy)
theorem gB_one (name : ByteArray) (t : Tm) (y : ByteArray) : gB [⟨name, t⟩] y = if name = y then t else varT y := by
  simp only [gB, lookB, List.find?]
  split
  · rename_i h; simp only [decide_eq_true_eq] at h; rw [if_pos h]; rfl
  · rename_i h; simp only [decide_eq_false_iff_not] at h; rw [if_neg h]; rfl
theorem mem_ins {α : Type} (l : List α) (i : Nat) (x b : α) : b ∈ ins l i x ↔ b ∈ l ∨ b = x := by
  unfold ins
  rw [List.mem_append, List.mem_cons]
  have : b ∈ l ↔ b ∈ l.take i ∨ b ∈ l.drop i := by rw [← List.mem_append, List.take_append_drop]
  rw [this]
  constructor
  · rintro (h | h | h) <;> simp [h]
  · rintro ((h | h) | h) <;> simp [h]
theorem stand_spec {l : List Bd} (h : GB l) {name : ByteArray} {t : Tm} (hn : varB name = true) (hns : name.size ≤ 140737488351232) (hw : t.wf) (hm : mayT t = true) (hl : hasB l name = false) (ho : ¬ t.occ name) (hf : ∀ y, t.occ y → hasB l y = false) (he : standE l name t = 0) :
    GB (standL l name t) ∧ (standL l name t).length = l.length + 1 ∧ (∀ y, gB (standL l name t) y = (gB l y).sub (gB [⟨name, t⟩])) ∧ ∀ y, hasB (standL l name t) y = (hasB l y || decide (name = y)) := by
  have hc : ¬ (16 ≤ l.length ∨ goodB [⟨name, t⟩] l = false) := by
    intro hc; rw [standE, if_pos hc] at he; cases he
  have hg : goodB [⟨name, t⟩] l = true := by
    cases hx : goodB [⟨name, t⟩] l with
    | true => rfl
    | false => exact absurd (.inr hx) hc
  have hg2 : ∀ b ∈ l, mayT (putT [⟨name, t⟩] b.t) = true := fun b hb => (into_may (by simpa using List.all_eq_true.1 hg b hb)).1
  rw [standL, if_neg hc]
  have hlen : (ins (subB [⟨name, t⟩] l) (posB l name) ⟨name, t⟩).length = l.length + 1 := by
    rw [ins_length _ _ _ (by rw [subB_length]; exact posB_le l name), subB_length]
  have hh : ∀ y, hasB (ins (subB [⟨name, t⟩] l) (posB l name) ⟨name, t⟩) y = (hasB l y || decide (name = y)) := fun y => by
    rw [Bool.eq_iff_iff, Bool.or_eq_true, hasB_iff, hasB_iff, decide_eq_true_eq]
    constructor
    · rintro ⟨b, hb, rfl⟩
      rcases (mem_ins _ _ _ _).1 hb with hb | rfl
      · obtain ⟨c, hc2, rfl⟩ := List.mem_map.1 hb
        exact .inl ⟨c, hc2, rfl⟩
      · exact .inr rfl
    · rintro (⟨b, hb, rfl⟩ | rfl)
      · exact ⟨_, (mem_ins _ _ _ _).2 (.inl (List.mem_map.2 ⟨b, hb, rfl⟩)), rfl⟩
      · exact ⟨_, (mem_ins _ _ _ _).2 (.inr rfl), rfl⟩
  have hsb : hasB (subB [⟨name, t⟩] l) name = false := by
    rw [hasB_no] at hl ⊢
    intro b hb
    obtain ⟨c, hc2, rfl⟩ := List.mem_map.1 hb
    exact hl c hc2
  have hris : RisB (ins (subB [⟨name, t⟩] l) (posB l name) ⟨name, t⟩) := by
    have := ins_ris (y := ⟨name, t⟩) (subB_ris [⟨name, t⟩] h.ris) hsb
    rwa [subB_pos] at this
  have hone := one_bok hns hw hm
  have hput : ∀ b ∈ l, putT [⟨name, t⟩] b.t = b.t.sub (gB [⟨name, t⟩]) := fun b hb => putT_sub (may_dle (h.el b hb).2.2) _
  have hGB : GB (ins (subB [⟨name, t⟩] l) (posB l name) ⟨name, t⟩) := by
    refine ⟨by rw [hlen]; omega, hris, fun b hb => ?_, fun b hb y hy => ?_⟩
    · rcases (mem_ins _ _ _ _).1 hb with hb | rfl
      · obtain ⟨c, hc2, rfl⟩ := List.mem_map.1 hb
        exact ⟨⟨(h.el c hc2).1.1, putT_wf hone (h.el c hc2).1.2⟩, (h.el c hc2).2.1, hg2 c hc2⟩
      · exact ⟨⟨hns, hw⟩, hn, hm⟩
    · rw [hh, Bool.or_eq_false_iff, decide_eq_false_iff_not]
      rcases (mem_ins _ _ _ _).1 hb with hb | rfl
      · obtain ⟨c, hc2, rfl⟩ := List.mem_map.1 hb
        simp only at hy
        rw [hput c hc2, occ_sub _ _ _ (may_shp (h.el c hc2).2.2)] at hy
        obtain ⟨x, hx, hy⟩ := hy
        rw [gB_one] at hy
        split at hy
        · exact ⟨hf y hy, fun e => ho (e ▸ hy)⟩
        · rename_i hne
          rw [varT_occ] at hy; subst hy
          exact ⟨h.idem c hc2 x hx, hne⟩
      · exact ⟨hf y hy, fun e => ho (e ▸ hy)⟩
  refine ⟨hGB, hlen, fun y => ?_, hh⟩
  rcases gB_cases h.ris y with ⟨b, hb, rfl, e⟩ | ⟨hn2, e⟩
  · rw [e]
    have := gB_mem hris (b := ⟨b.name, putT [⟨name, t⟩] b.t⟩) ((mem_ins _ _ _ _).2 (.inl (List.mem_map.2 ⟨b, hb, rfl⟩)))
    simp only at this
    rw [this, hput b hb]
  · rw [e, varT_sub, gB_one]
    split
    · rename_i hy; subst hy
      exact gB_mem hris (b := ⟨name, t⟩) ((mem_ins _ _ _ _).2 (.inr rfl))
    · rename_i hy
      exact gB_none hris (by rw [hh, hn2]; simpa using hy)
end Go.Proofs.Ytdecgkhdbfgldaa

set_option linter.unusedVariables false
set_option linter.unusedSimpArgs false
namespace Go.Proofs.Ytdecgkhdbfgldaa
open Go
def TK (t : Tm) : Prop := t.shp ∧ dle 5 t ∧ t.wf
def PK (p : Tm × Tm) : Prop := TK p.1 ∧ TK p.2
theorem TK_may {t : Tm} (h : mayT t = true) (hw : t.wf) : TK t := ⟨may_shp h, may_dle h, hw⟩
theorem TK.arg {t u : Tm} (h : TK t) (hu : u ∈ t.args) : TK u := ⟨h.1.arg hu, dle_mono 4 5 u (by omega) (h.2.1 u hu), Tm.wfs_mem h.2.2.2.2.2.2 hu⟩
theorem occB_iff {t : Tm} (h : dle 5 t) (s : ByteArray) : occB t s = true ↔ t.occ s := by
  rw [occB, List.any_eq_true]
  constructor
  · rintro ⟨y, hy, e⟩
    simp only [decide_eq_true_eq] at e; subst e
    exact (note5 h y).1 hy
  · intro ho; exact ⟨s, (note5 h s).2 ho, by simp⟩
theorem stands_spec {l : List Bd} (h : GB l) {x : ByteArray} {u : Tm} (hx : varB x = true) (hxs : x.size ≤ 140737488351232) (hw : u.wf) (hm : mayT u = true) (hl : hasB l x = false) (hf : ∀ y, u.occ y → hasB l y = false) (hne : u ≠ varT x) :
    standsE l x u = 2 ∨ (standsE l x u = 3 ∧ ∀ θ : ByteArray → Tm, θ x ≠ u.sub θ) ∨ (standsE l x u = 0 ∧ GB (standsL l x u) ∧ (standsL l x u).length = l.length + 1 ∧ (∀ y, gB (standsL l x u) y = (gB l y).sub (gB [⟨x, u⟩])) ∧ ∀ y, hasB (standsL l x u) y = (hasB l y || decide (x = y))) := by
  have hs := may_shp hm
  rw [standsE, standsL]
  cases hc : occB u x with
  | true =>
    rw [occB_iff (may_dle hm)] at hc
    rw [if_pos rfl]
    refine .inr (.inl ⟨rfl, fun θ e => ?_⟩)
    have hk : u.kind ≠ 1 := fun hk => by
      have hv := (hs.var hk).1
      rw [hv, Tm.occ_iff] at hc
      simp only [List.not_mem_nil, false_and, exists_false, or_false, true_and] at hc
      rw [hc] at hv; exact hne hv
    have := (sz_occ θ hs hc).2 hk
    rw [e] at this; omega
  | false =>
    have ho : ¬ u.occ x := fun ho => by rw [(occB_iff (may_dle hm) x).2 ho] at hc; cases hc
    rw [if_neg (by simp), if_neg (by simp)]
    by_cases he : standE l x u = 0
    · obtain ⟨h1, h2, h3, h4⟩ := stand_spec h hx hxs hw hm hl ho hf he
      exact .inr (.inr ⟨he, h1, h2, h3, h4⟩)
    · left
      unfold standE at he ⊢
      split
      · rfl
      · rename_i hh; rw [if_neg hh] at he; exact absurd rfl he
def OneOk (l : List Bd) (a b : Tm) (q : List Bd × List (Tm × Tm) × Int) : Prop :=
  mayT a = true ∧ mayT b = true ∧ ((q = (l, [], 0) ∧ a = b) ∨
    (∃ x u, ((a = varT x ∧ b = u) ∨ (b = varT x ∧ a = u)) ∧ u.shp ∧ q.2 = ([], 0) ∧ GB q.1 ∧ q.1.length = l.length + 1 ∧ (∀ y, gB q.1 y = (gB l y).sub (gB [⟨x, u⟩])) ∧ ∀ y, hasB q.1 y = (hasB l y || decide (x = y))) ∨
    (q = (l, a.args.zip b.args, 0) ∧ a.kind ≠ 1 ∧ b.kind ≠ 1 ∧ a.kind = b.kind ∧ a.name = b.name ∧ a.n = b.n ∧ a.args.length = b.args.length))
theorem one_spec {l : List Bd} (h : GB l) {p : Tm × Tm} (hp : PK p) :
    (oneR l p).2.2 = 2 ∨ ((oneR l p).2.2 = 3 ∧ ∀ θ : ByteArray → Tm, (p.1.sub (gB l)).sub θ ≠ (p.2.sub (gB l)).sub θ) ∨ OneOk l (p.1.sub (gB l)) (p.2.sub (gB l)) (oneR l p) := by
  have e1 := putT_sub hp.1.2.1 l
  have e2 := putT_sub hp.2.2.1 l
  have w1 := putT_wf h.bok hp.1.2.2
  have w2 := putT_wf h.bok hp.2.2.2
  have f1 : ∀ y, (p.1.sub (gB l)).occ y → hasB l y = false := fun y => ap_occ h hp.1.1
  have f2 : ∀ y, (p.2.sub (gB l)).occ y → hasB l y = false := fun y => ap_occ h hp.2.1
  have hi : ∀ t, intoE l t = 0 ∨ intoE l t = 2 := fun t => by unfold intoE; split <;> simp
  unfold oneR
  by_cases c0 : intoE l p.1 = 0
  case neg => rw [if_pos c0]; rcases hi p.1 with h | h; exact absurd h c0; exact .inl h
  rw [if_neg (by simp [c0])]
  by_cases c1 : intoE l p.2 = 0
  case neg => rw [if_pos c1]; rcases hi p.2 with h | h; exact absurd h c1; exact .inl h
  rw [if_neg (by simp [c1])]
  have m1 := (into_may c0).1
  have m2 := (into_may c1).1
  rw [e1] at w1 m1
  rw [e2] at w2 m2
  rw [e1, e2]
  generalize p.1.sub (gB l) = a at *
  generalize p.2.sub (gB l) = b at *
  have s1 := may_shp m1
  have s2 := may_shp m2
  have key : ∀ (x : ByteArray) (u : Tm), ((a = varT x ∧ b = u) ∨ (b = varT x ∧ a = u)) → u ≠ varT x → u.wf → mayT u = true → (∀ y, u.occ y → hasB l y = false) → varB x = true → x.size ≤ 140737488351232 → hasB l x = false →
      (standsE l x u = 2 ∨ (standsE l x u = 3 ∧ ∀ θ : ByteArray → Tm, a.sub θ ≠ b.sub θ) ∨ OneOk l a b (standsL l x u, [], standsE l x u)) := fun x u hab hne hw hm hf hx hxs hl => by
    rcases stands_spec h hx hxs hw hm hl hf hne with h1 | ⟨h1, h2⟩ | ⟨h1, h2, h3, h4, h5⟩
    · exact .inl h1
    · refine .inr (.inl ⟨h1, fun θ e => ?_⟩)
      rcases hab with ⟨rfl, rfl⟩ | ⟨rfl, rfl⟩
      · rw [varT_sub] at e; exact h2 θ e
      · rw [varT_sub] at e; exact h2 θ e.symm
    · exact .inr (.inr ⟨m1, m2, .inr (.inl ⟨x, u, hab, may_shp hm, by rw [h1], h2, h3, h4, h5⟩)⟩)
  split
  · rename_i hc
    have ea := (s1.var hc.1).1
    have eb := (s2.var hc.2.1).1
    exact .inr (.inr ⟨m1, m2, .inl ⟨rfl, by rw [ea, eb, hc.2.2]⟩⟩)
  rename_i n0
  split
  · rename_i hc
    have ea := s1.var hc.1
    refine key a.name b (.inl ⟨ea.1, rfl⟩) (fun e => ?_) w2 m2 f2 ea.2 w1.2.1 (f1 _ ((Tm.occ_iff _ _).2 (.inl ⟨hc.1, rfl⟩)))
    have hbk : b.kind = 1 := by rw [e]; rfl
    have hbn : b.name = a.name := by rw [e]; rfl
    exact n0 ⟨hc.1, hbk, hbn.symm⟩
  rename_i n1
  split
  · rename_i hc
    have eb := s2.var hc
    refine key b.name a (.inr ⟨eb.1, rfl⟩) (fun e => ?_) w1 m1 f1 eb.2 w2.2.1 (f2 _ ((Tm.occ_iff _ _).2 (.inl ⟨hc, rfl⟩)))
    have hak : a.kind = 1 := by rw [e]; rfl
    have han : a.name = b.name := by rw [e]; rfl
    exact n0 ⟨hak, hc, han⟩
  rename_i n2
  have hak : a.kind ≠ 1 := fun hk => n1 ⟨hk, .inl n2⟩
  split
  · rename_i hc
    rw [argsL, if_pos hc]
    simp only [argsB, Bool.and_eq_true, decide_eq_true_eq] at hc
    exact .inr (.inr ⟨m1, m2, .inr (.inr ⟨rfl, hak, n2, hc.1.1.1, hc.1.1.2, hc.1.2, hc.2⟩)⟩)
  · rename_i hc
    refine .inr (.inl ⟨rfl, fun θ e => ?_⟩)
    rw [Tm.sub_eq, if_neg hak, Tm.sub_eq, if_neg n2] at e
    simp only [Tm.mk.injEq] at e
    apply hc
    have := congrArg List.length e.2.2.2
    simp only [List.length_map] at this
    simp [argsB, e.1, e.2.1, e.2.2.1, this]
def uIter : Nat → List Bd → List (Tm × Tm) → Option (List Bd × Int)
  | _, l, [] => some (l, 0)
  | 0, _, _ :: _ => none
  | n + 1, l, p :: ps => if (oneR l p).2.2 ≠ 0 then some ([], (oneR l p).2.2) else uIter n (oneR l p).1 ((oneR l p).2.1 ++ ps)
theorem PK_zip {a b : Tm} (ha : TK a) (hb : TK b) : ∀ p ∈ a.args.zip b.args, PK p := fun p hp => by
  have := List.of_mem_zip hp
  exact ⟨ha.arg this.1, hb.arg this.2⟩
theorem one_keeps {l : List Bd} (h : GB l) {p : Tm × Tm} (hp : PK p) (he : (oneR l p).2.2 = 0) : GB (oneR l p).1 ∧ (∀ q ∈ (oneR l p).2.1, PK q) ∧ OneOk l (p.1.sub (gB l)) (p.2.sub (gB l)) (oneR l p) := by
  have e1 := putT_sub hp.1.2.1 l
  have e2 := putT_sub hp.2.2.1 l
  have w1 := putT_wf h.bok hp.1.2.2
  have w2 := putT_wf h.bok hp.2.2.2
  rw [e1] at w1
  rw [e2] at w2
  rcases one_spec h hp with h1 | ⟨h1, _⟩ | h1
  · rw [h1] at he; cases he
  · rw [h1] at he; cases he
  · refine ⟨?_, ?_, h1⟩
    · obtain ⟨_, _, ⟨e, _⟩ | ⟨x, u, _, _, e, hg, _⟩ | ⟨e, _⟩⟩ := h1
      · rw [e]; exact h
      · exact hg
      · rw [e]; exact h
    · obtain ⟨m1, m2, ⟨e, _⟩ | ⟨x, u, _, _, e, hg, _⟩ | ⟨e, _⟩⟩ := h1
      · rw [e]; intro q hq; cases hq
      · rw [e]; intro q hq; cases hq
      · rw [e]; exact PK_zip (TK_may m1 w1) (TK_may m2 w2)
end Go.Proofs.Ytdecgkhdbfgldaa

set_option linter.unusedVariables false
set_option linter.unusedSimpArgs false
namespace Go.Proofs.Ytdecgkhdbfgldaa
open Go
def wgh (l : List Bd) (ps : List (Tm × Tm)) : Nat := (ps.map fun p => (p.1.sub (gB l)).sz).sum
theorem wgh_cons (l : List Bd) (p : Tm × Tm) (ps : List (Tm × Tm)) : wgh l (p :: ps) = (p.1.sub (gB l)).sz + wgh l ps := by simp [wgh]
theorem wgh_append (l : List Bd) (ps qs : List (Tm × Tm)) : wgh l (ps ++ qs) = wgh l ps + wgh l qs := by simp [wgh]
theorem wgh_zip {l : List Bd} (h : GB l) {p : Tm × Tm} (hp : PK p) {bs : List Tm} (hlen : (p.1.sub (gB l)).args.length = bs.length) : 1 + wgh l ((p.1.sub (gB l)).args.zip bs) = (p.1.sub (gB l)).sz := by
  rw [Tm.sz_eq (p.1.sub (gB l)), wgh]
  have hs := ap_shp h hp.1.1
  have ho : ∀ y, (p.1.sub (gB l)).occ y → hasB l y = false := fun y => ap_occ h hp.1.1
  have e : (((p.1.sub (gB l)).args.zip bs).map fun p => (p.1.sub (gB l)).sz) = (((p.1.sub (gB l)).args.zip bs).map Prod.fst).map fun u => (u.sub (gB l)).sz := by rw [List.map_map]; rfl
  rw [e, List.map_fst_zip (by omega)]
  have e2 : ((p.1.sub (gB l)).args.map fun u => (u.sub (gB l)).sz) = (p.1.sub (gB l)).args.map Tm.sz := List.map_congr_left fun u hu => by
    rw [gB_id h (hs.arg hu) fun y hy => ho y ((Tm.occ_iff _ _).2 (.inr ⟨u, hu, hy⟩))]
  rw [e2]
def WI (l : List Bd) (ps : List (Tm × Tm)) : Prop := ∃ pend rest, ps = pend ++ rest ∧ wgh l pend ≤ 24 ∧ rest.length ≤ 24 * (l.length + 1)
theorem wgh_len (l : List Bd) : ∀ ps, ps.length ≤ wgh l ps
  | [] => Nat.zero_le _
  | p :: ps => by
    have := wgh_len l ps
    have := Tm.sz_pos (p.1.sub (gB l))
    rw [wgh_cons, List.length_cons]; omega
theorem WI.len {l : List Bd} {ps : List (Tm × Tm)} (h : WI l ps) (hl : l.length ≤ 16) : ps.length ≤ 432 := by
  obtain ⟨pend, rest, rfl, h1, h2⟩ := h
  have := wgh_len l pend
  rw [List.length_append]; omega
theorem WI.step {l : List Bd} (h : GB l) {p : Tm × Tm} (hp : PK p) {ps : List (Tm × Tm)} (hw : WI l (p :: ps)) (he : (oneR l p).2.2 = 0) : WI (oneR l p).1 ((oneR l p).2.1 ++ ps) := by
  obtain ⟨g1, g2, g3⟩ := one_keeps h hp he
  obtain ⟨pend, rest, e0, h1, h2⟩ := hw
  cases pend with
  | nil =>
    simp only [List.nil_append] at e0
    subst e0
    simp only [List.length_cons] at h2
    obtain ⟨m1, m2, ⟨e, _⟩ | ⟨x, u, _, _, e, _, hl, _⟩ | ⟨e, _, _, _, _, _, hlen⟩⟩ := g3
    · rw [e]; exact ⟨[], ps, rfl, by simp [wgh], by simp only; omega⟩
    · rw [e]; exact ⟨[], ps, rfl, by simp [wgh], by rw [hl]; omega⟩
    · rw [e]
      have := wgh_zip h hp hlen
      have hz := ((mayT_iff _).1 m1).2.2
      exact ⟨_, ps, rfl, by simp only; omega, by simp only; omega⟩
  | cons q pend =>
    simp only [List.cons_append, List.cons.injEq] at e0
    obtain ⟨rfl, rfl⟩ := e0
    rw [wgh_cons] at h1
    have hpos := Tm.sz_pos (p.1.sub (gB l))
    obtain ⟨m1, m2, ⟨e, _⟩ | ⟨x, u, _, _, e, _, hl, _⟩ | ⟨e, _, _, _, _, _, hlen⟩⟩ := g3
    · rw [e]; exact ⟨pend, rest, rfl, by simp only; omega, h2⟩
    · rw [e]
      refine ⟨[], pend ++ rest, rfl, by simp [wgh], ?_⟩
      have := wgh_len l pend
      rw [hl, List.length_append]; omega
    · rw [e]
      have := wgh_zip h hp hlen
      refine ⟨(p.1.sub (gB l)).args.zip (p.2.sub (gB l)).args ++ pend, rest, by simp, ?_, h2⟩
      rw [wgh_append]; simp only; omega
def uSt : Nat → List Bd × List (Tm × Tm) → List Bd × List (Tm × Tm)
  | 0, s => s
  | k + 1, s => match uSt k s with
    | (l, []) => (l, [])
    | (l, p :: ps) => ((oneR l p).1, (oneR l p).2.1 ++ ps)
theorem uSt_step {k : Nat} {s : List Bd × List (Tm × Tm)} {p : Tm × Tm} {ps : List (Tm × Tm)} (h : (uSt k s).2 = p :: ps) : uSt (k + 1) s = ((oneR (uSt k s).1 p).1, (oneR (uSt k s).1 p).2.1 ++ ps) := by
  rw [uSt]
  split
  · rename_i e; rw [e] at h; cases h
  · rename_i e; rw [e] at h ⊢; simp only [List.cons.injEq] at h; obtain ⟨rfl, rfl⟩ := h; rfl
def UI (n : Nat) (s : List Bd × List (Tm × Tm)) (R : List Bd × Int) (k : Nat) : Prop := k ≤ n ∧ GB (uSt k s).1 ∧ (∀ p ∈ (uSt k s).2, PK p) ∧ WI (uSt k s).1 (uSt k s).2 ∧ uIter (n - k) (uSt k s).1 (uSt k s).2 = some R
theorem UI.step {n : Nat} {s : List Bd × List (Tm × Tm)} {R : List Bd × Int} {k : Nat} (h : UI n s R k) {p : Tm × Tm} {ps : List (Tm × Tm)} (hp : (uSt k s).2 = p :: ps) : k < n ∧ ((oneR (uSt k s).1 p).2.2 = 0 → UI n s R (k + 1)) ∧ ((oneR (uSt k s).1 p).2.2 ≠ 0 → R = ([], (oneR (uSt k s).1 p).2.2)) := by
  obtain ⟨h1, h2, h3, h4, h5⟩ := h
  rw [hp] at h3 h4 h5
  have hk : k < n := by
    rcases Nat.lt_or_ge k n with h | h
    · exact h
    · rw [show n - k = 0 by omega, uIter] at h5; cases h5
  rw [show n - k = (n - (k + 1)) + 1 by omega, uIter] at h5
  refine ⟨hk, fun he => ?_, fun he => ?_⟩
  · rw [if_neg (by simp [he])] at h5
    obtain ⟨g1, g2, _⟩ := one_keeps h2 (h3 p (by simp)) he
    rw [UI, uSt_step hp]
    exact ⟨hk, g1, fun q hq => by
      rcases List.mem_append.1 hq with hq | hq
      · exact g2 q hq
      · exact h3 q (by simp [hq]), WI.step h2 (h3 p (by simp)) h4 he, h5⟩
  · rw [if_pos he] at h5; exact (Option.some.inj h5).symm
end Go.Proofs.Ytdecgkhdbfgldaa

set_option linter.unusedVariables false
set_option maxRecDepth 8000
namespace Go.Proofs.Ytdecgkhdbfgldaa
open Go Go.RowKit
structure Ask2 where
  B : List (List Bd)
  T : List Tm
  S : List ByteArray
def Ask2.wf (p : Ask2) : Prop := (lenOk p.B ∧ ∀ l ∈ p.B, lenOk l ∧ ∀ b ∈ l, b.wf) ∧ (lenOk p.T ∧ Tm.wfs p.T) ∧ (lenOk p.S ∧ ∀ s ∈ p.S, s.size ≤ 140737488351232)
def a2D (p : Ask2) : List D := [.sl 1 (bdlDs p.B), .sl 4 (tmDs p.T), .sl 1 (p.S.map fun s => [.imm (.string s)])]
theorem rdr_strs (w : World) (n : Nat) : Rdr Try.prog w n 58 1 (fun l : List ByteArray => [.sl 1 (l.map fun s => [.imm (.string s)])]) (fun l => lenOk l ∧ ∀ s ∈ l, s.size ≤ 140737488351232) := by
  refine Rdr.map id (Rdr.slice sl_S_string (by decide) fun k _ => Rdr.str ul_string) (fun _ => rfl) (fun _ _ => rfl) ?_
  rintro l ⟨h1, h2⟩
  rw [by_string] at h1
  exact ⟨lenOk_of h1 (by decide), h2⟩
theorem rdr_a2 (w : World) (n : Nat) : Rdr Try.prog w n 60 3 a2D Ask2.wf := by
  refine Rdr.map (fun x : List (List Bd) × List Tm × List ByteArray × Unit => ⟨x.1, x.2.1, x.2.2.1⟩) (Rdr.struct st_almagestlaw2_Ask (fun _ => rfl) fun m hm => RdrF.cons (rdr_bdls w m) (RdrF.cons (rdr_tms w m) (RdrF.cons (rdr_strs w m) RdrF.nil))) (fun _ => rfl) ?_ ?_
  · rintro ⟨a, b, c, _⟩ _; rfl
  · rintro ⟨a, b, c, _⟩ ⟨h1, h2, h3, _⟩; exact ⟨h1, h2, h3⟩
end Go.Proofs.Ytdecgkhdbfgldaa

set_option linter.unusedVariables false
set_option linter.unusedSimpArgs false
set_option maxRecDepth 8000
namespace Go.Proofs.Ytdecgkhdbfgldaa
open Go
theorem var_le (f : Bool) (s : ByteArray) : Le (.agg [iv 1, sv s, iv 0, .imm (.slice none 0 0)]) (.agg (lift f (tmD (varT s)))) := .agg (.cons .refl (.cons .refl (.cons .refl (.cons .nil .nil))))
def numT (n : Int) : Tm := ⟨2, ⟨#[]⟩, n, []⟩
theorem num_le (f : Bool) (n : Int) : Le (.agg [iv 2, sv ⟨#[]⟩, iv n, .imm (.slice none 0 0)]) (.agg (lift f (tmD (numT n)))) := .agg (.cons .refl (.cons .refl (.cons .refl (.cons .nil .nil))))
theorem tm_wf1 {k : Int} {s : ByteArray} {n : Int} {l : List Tm} (hk : -9223372036854775808 ≤ k ∧ k ≤ 9223372036854775807) (hs : s.size ≤ 140737488351232) (hn : -9223372036854775808 ≤ n ∧ n ≤ 9223372036854775807) (hl : l.length * 56 ≤ 140737488351232) (h : ∀ t ∈ l, t.wf) : (Tm.mk k s n l).wf := ⟨hk, hs, hn, hl, wfs_of h⟩
abbrev sX : ByteArray := ⟨#[88]⟩
theorem varT_w (s : ByteArray) (h : s.size ≤ 140737488351232) : (varT s).wf := tm_wf1 (by decide) h (by decide) (by decide) (fun t ht => by cases ht)
theorem numT_w (n : Int) (h : -9223372036854775808 ≤ n ∧ n ≤ 9223372036854775807) : (numT n).wf := tm_wf1 (by decide) (Nat.zero_le _) h (by decide) (fun t ht => by cases ht)
theorem nil_bwf : ∀ b ∈ ([] : List Bd), b.wf := fun b hb => by cases hb
end Go.Proofs.Ytdecgkhdbfgldaa

set_option linter.unusedVariables false
set_option linter.unusedSimpArgs false
set_option maxRecDepth 8000
namespace Go.Proofs.Ytdecgkhdbfgldaa
open Go
theorem oX : (varT sX).wf := varT_w _ (by decide)
end Go.Proofs.Ytdecgkhdbfgldaa

set_option linter.unusedVariables false
set_option linter.unusedSimpArgs false
set_option maxRecDepth 8000
namespace Go.Proofs.Ytdecgkhdbfgldaa
open Go
theorem num2_ok (x : Int) : PF 34 [iv x] (iv x) := by
  refine AC_intro Try.func34 rfl Try.ntmps34 (Nat.le_of_ble_eq_true rfl) fun c hL hQ => ?_
  refine awp_seq ?_
  refine awp_region ?_
  refine awps_stp0 rfl rfl (by decide) (stp_move (.inr rfl) rfl) ?_
  refine awps_nil ?_
  refine thenQ_nil ?_
  refine awp_seq ?_
  refine awp_region ?_
  refine awps_stp0 rfl rfl (by decide) (stp_move (.inl rfl) rfl) ?_
  refine awps_stp0 rfl rfl (by decide) (stp_move (.inr rfl) rfl) ?_
  refine awps_nil ?_
  refine thenQ_nil ?_
  refine awp_ret ?_
  -- leaf 
  refine ret0 (noL hL) (.inl rfl) (resAs_tmp rfl (resAs_nil)) ?_ ?_
  · rfl
  exact ⟨rfl, rfl⟩
def wS (s : ByteArray) : Int := s.size
def wSs (l : List ByteArray) : Int := wgtL wS l.length l
theorem Texts_ok (l : List ByteArray) (hl : lenOk l) (hw : ∀ s ∈ l, s.size ≤ 140737488351232) : PF 67 [.dat false 1 (strDs l)] (iv (wSs l)) := by
  have hlen := strDs_length l
  have hF : ∀ u, u ∈ l → 0 ≤ wS u ∧ wS u ≤ 4362862138900000 := fun u hu => by have := hw u hu; simp only [wS]; omega
  simp only [lenOk] at hl
  refine AC_intro Try.func67 rfl Try.ntmps67 (Nat.le_of_ble_eq_true rfl) fun c hL hQ => ?_
  refine awp_seq ?_
  refine awp_region ?_
  refine awps_stp0 rfl rfl (by decide) (stp_move (.inr rfl) rfl) ?_
  refine awps_nil ?_
  refine thenQ_nil ?_
  refine awp_seq ?_
  refine awp_region ?_
  refine awps_stp0 rfl rfl (by decide) (stp_move (.inl rfl) rfl) ?_
  first | refine awps_stp0 rfl rfl (by decide) (stp_len_dat rfl sl_S_string rfl) ?_ | refine awps_stp0 rfl rfl (by decide) (stp_len_rowd rfl sl_S_string rfl rfl) ?_ | refine awps_stp0 rfl rfl (by decide) (stp_len_nil rfl sl_S_string rfl) ?_ | refine awps_stp0 rfl rfl (by decide) (stp_len_vw rfl sl_S_string rfl) ?_
  refine awps_stp0 rfl rfl (by decide) (stp_move (.inr rfl) rfl) ?_
  refine awps_nil ?_
  refine thenQ_nil ?_
  refine awp_seq ?_
  refine awp_seq ?_
  refine awp_region ?_
  refine awps_stp0 rfl rfl (by decide) (stp_move (.inr rfl) rfl) ?_
  refine awps_nil ?_
  refine thenQ_nil ?_
  refine awp_block ?_
  refine awp_while (l.length) (fun k => k ≤ l.length ∧ ∀ j, j < k → wgtL wS l.length (l.take j) < 1048576) (fun k => ⟨[(0, .dat false 1 (strDs l)), (3, iv (wgtL wS l.length (l.take k))), (4, iv (k : Int))], []⟩) (⟨by omega, fun j hj => absurd hj (by omega)⟩) ?_ (fun k hk hp => ?_)
  · exact sub_re (SubT.cons (lk_eq rfl (by first | rfl | simp)) (SubT.cons (lk_eq rfl (by exact int_imm (by simp only [List.take_zero, wgtL]; omega))) (SubT.cons (lk_eq rfl (by first | rfl | simp)) (SubT.nil)))) (SubO.nil) rfl rfl (noL' (noL hL) _)
  have hwk := wgtL_le wS 4362862138900000 (by omega) l.length (l.take k) (fun u hu => (hF u (List.mem_of_mem_take hu)).2) (by omega)
  have hw0 := wgtL_ge' wS l.length (l.take k) (fun u hu => (hF u (List.mem_of_mem_take hu)).1)
  refine awp_seq ?_
  refine awp_seq ?_
  refine awp_region ?_
  refine awps_stp0 rfl rfl (by decide) (stp_move (.inl rfl) rfl) ?_
  refine awps_stp0 rfl rfl (by decide) (stp_move (.inl rfl) rfl) ?_
  first | refine awps_stp0 rfl rfl (by decide) (stp_len_dat rfl sl_S_string rfl) ?_ | refine awps_stp0 rfl rfl (by decide) (stp_len_rowd rfl sl_S_string rfl rfl) ?_ | refine awps_stp0 rfl rfl (by decide) (stp_len_nil rfl sl_S_string rfl) ?_ | refine awps_stp0 rfl rfl (by decide) (stp_len_vw rfl sl_S_string rfl) ?_
  refine awps_stp0 rfl rfl (by decide) (stp_binI rfl rfl rfl rfl) ?_
  refine awps_stp0 rfl rfl (by decide) (stp_move (.inl rfl) rfl) ?_
  refine awps_split 11 rfl (fun g11 => ?_) (fun g11 => ?_)
  · try simp only [↓str_beq_t, ↓str_beq_f, decide_eq_true_eq, decide_eq_false_iff_not, Bool.not_eq_true', Bool.not_eq_false', Int.not_lt, Int.not_le, beq_iff_eq, beq_eq_false_iff_ne, bne_iff_ne, bne_eq_false_iff_eq, ne_eq] at g11
    obtain ⟨u, hu⟩ := get_of_lt (l := l) (k := k) (by omega)
    have hum := List.mem_of_getElem? hu
    have huw := hF u hum
    have hws : wS u = u.size := rfl
    refine awps_g0 rfl rfl rfl (by decide) rfl (by decide) (stp_move (.inl rfl) rfl) ?_
    refine awps_g0 rfl rfl rfl (by decide) rfl (by decide) (stp_binI rfl rfl rfl rfl) ?_
    refine awps_stp0 rfl rfl (by decide) (stp_pick rfl rfl rfl) ?_
    refine awps_nil ?_
    refine thenQ_nil ?_
    refine awp_cond rfl (fun c0 => ?_) (fun c0 => ?_)
    · try simp only [↓str_beq_t, ↓str_beq_f, decide_eq_true_eq, decide_eq_false_iff_not, Bool.not_eq_true', Bool.not_eq_false', Int.not_lt, Int.not_le, beq_iff_eq, beq_eq_false_iff_ne, bne_iff_ne, bne_eq_false_iff_eq, ne_eq] at c0
      refine awp_skip ?_
      refine thenQ_nil ?_
      refine awp_seq ?_
      refine awp_block ?_
      refine awp_region ?_
      refine awps_stp0 rfl rfl (by decide) (stp_move (.inl rfl) rfl) ?_
      refine awps_stp0 rfl rfl (by decide) (stp_move (.inl rfl) rfl) ?_
      refine awps_stp0 rfl rfl (by decide) (stp_move (.inl rfl) rfl) ?_
      first | refine awps_stp0 rfl rfl (by decide) (stp_indexAddr rfl sl_S_string rfl rfl (by omega) (strDs_get hu)) ?_ | refine awps_stp0 rfl rfl (by decide) (stp_indexAddr_rowd rfl sl_S_string rfl rfl rfl (by omega) (strDs_get hu)) ?_ | refine awps_stp0 rfl rfl (by decide) (stp_indexAddr_row rfl sl_S_string rfl rfl rfl (by omega) (strDs_get hu) (by decide)) ?_
      first | refine awps_stp0 rfl rfl (by decide) (stp_load rfl tf_string rfl rfl rfl rfl rfl) ?_ | refine awps_stp0 rfl rfl (by decide) (stp_load_elp1 rfl tf_string rfl) ?_ | refine awps_stp0 rfl rfl (by decide) (stp_load_elpn rfl tf_string rfl rfl rfl) ?_
      refine awps_stp0 rfl rfl (by decide) (stp_len_str rfl ul_string rfl) ?_
      refine awps_stp0 rfl rfl (by decide) (stp_add rfl rfl rfl (by omega)) ?_
      refine awps_stp0 rfl rfl (by decide) (stp_move (.inr rfl) rfl) ?_
      refine awps_nil ?_
      refine inQ_nil ?_
      refine thenQ_nil ?_
      refine awp_region ?_
      refine awps_stp0 rfl rfl (by decide) (stp_move (.inl rfl) rfl) ?_
      refine awps_stp0 rfl rfl (by decide) (stp_add rfl rfl rfl (by omega)) ?_
      refine awps_stp0 rfl rfl (by decide) (stp_move (.inr rfl) rfl) ?_
      refine awps_nil ?_
      have hb := wgtL_snoc wS l.length (l.take k) u (fun j hj => by
        by_cases hjk : j < k
        · have := hp.2 j hjk; rwa [List.take_take, Nat.min_eq_left (by omega)]
        · rw [List.take_of_length_le (by simp; omega)]; omega)
      rw [← take_snoc hu] at hb
      refine thenQ_nil ?_
      refine ⟨?_, ?_, ?_⟩
      · skip
        omega
      · skip
        refine ⟨by omega, fun j hj => ?_⟩
        by_cases hjk : j < k
        · exact hp.2 j hjk
        · rw [show j = k by omega]; omega
      exact sub_re (SubT.cons (lk_eq rfl (by first | rfl | simp)) (SubT.cons (lk_eq rfl (by exact int_imm (by rw [hb]; try omega))) (SubT.cons (lk_eq rfl (by first | rfl | simp)) (SubT.nil)))) (SubO.nil) rfl rfl (noL' (noL hL) _)
    try simp only [↓str_beq_t, ↓str_beq_f, decide_eq_true_eq, decide_eq_false_iff_not, Bool.not_eq_true', Bool.not_eq_false', Int.not_lt, Int.not_le, beq_iff_eq, beq_eq_false_iff_ne, bne_iff_ne, bne_eq_false_iff_eq, ne_eq] at c0
    have hfin : wgtL wS l.length (l.take k) = wgtL wS l.length l := ((wgtL_take wS _ _ k hp.1 hp.2).trans (wgtL_stop _ _ _ (by omega))).symm
    refine awp_exit ?_
    refine thenQ_exit (thenQ_exit (inQ_hit ?_))
    refine thenQ_nil ?_
    refine awp_seq ?_
    refine awp_region ?_
    refine awps_stp0 rfl rfl (by decide) (stp_move (.inl rfl) rfl) ?_
    refine awps_stp0 rfl rfl (by decide) (stp_move (.inr rfl) rfl) ?_
    refine awps_nil ?_
    refine thenQ_nil ?_
    refine awp_ret ?_
    -- leaf g11T0F
    refine ret0 (noL hL) (.inl rfl) (resAs_tmp rfl (resAs_nil)) ?_ ?_
    · rfl
    exact ⟨int_w hfin, rfl⟩
  try simp only [↓str_beq_t, ↓str_beq_f, decide_eq_true_eq, decide_eq_false_iff_not, Bool.not_eq_true', Bool.not_eq_false', Int.not_lt, Int.not_le, beq_iff_eq, beq_eq_false_iff_ne, bne_iff_ne, bne_eq_false_iff_eq, ne_eq] at g11
  have hfin : wgtL wS l.length (l.take k) = wgtL wS l.length l := by rw [List.take_of_length_le (by omega)]
  refine awps_gs rfl rfl rfl rfl (by decide) rfl (by decide) ?_
  refine awps_gs rfl rfl rfl rfl (by decide) rfl (by decide) ?_
  refine awps_stp0 rfl rfl (by decide) (stp_pick rfl rfl rfl) ?_
  refine awps_nil ?_
  refine thenQ_nil ?_
  refine awp_condF rfl ?_
  refine awp_exit ?_
  refine thenQ_exit (thenQ_exit (inQ_hit ?_))
  refine thenQ_nil ?_
  refine awp_seq ?_
  refine awp_region ?_
  refine awps_stp0 rfl rfl (by decide) (stp_move (.inl rfl) rfl) ?_
  refine awps_stp0 rfl rfl (by decide) (stp_move (.inr rfl) rfl) ?_
  refine awps_nil ?_
  refine thenQ_nil ?_
  refine awp_ret ?_
  -- leaf g11F
  refine ret0 (noL hL) (.inl rfl) (resAs_tmp rfl (resAs_nil)) ?_ ?_
  · rfl
  exact ⟨int_w hfin, rfl⟩
theorem wSs_range (l : List ByteArray) (hl : lenOk l) (hw : ∀ s ∈ l, s.size ≤ 140737488351232) : 0 ≤ wSs l ∧ wSs l ≤ 4600000000000000 := by
  have hF : ∀ u, u ∈ l → 0 ≤ wS u ∧ wS u ≤ 4362862138900000 := fun u hu => by have := hw u hu; simp only [wS]; omega
  have h1 := wgtL_le wS 4362862138900000 (by omega) l.length l (fun u hu => (hF u hu).2) (by simp only [lenOk] at hl; omega)
  have h2 := wgtL_ge' wS l.length l (fun u hu => (hF u hu).1)
  simp only [wSs]; omega
def heavy2 (p : Ask2) : Bool := decide (3000 < wgtL wBs (wTs p.T + wSs p.S + p.B.length) p.B)
theorem Heavy2_ok (p : Ask2) (hp : p.wf) : PF 32 [.agg (lift false (a2D p))] (bv (heavy2 p)) := by
  obtain ⟨l, T, S⟩ := p
  obtain ⟨⟨hl, hwB⟩, ⟨hlT, hwT⟩, hlS, hwS⟩ := hp
  have hlen := bdlDs_length l
  have hlen2 : (bdlDs (Ask2.mk l T S).B).length = l.length := hlen
  have hrT := wTs_range T hlT hwT
  have hrS := wSs_range S hlS hwS
  have hF : ∀ u, u ∈ l → 0 ≤ wBs u ∧ wBs u ≤ 9300000000000000 := fun u hu => by
    have := wBs_range u (hwB u hu).1 (hwB u hu).2; omega
  simp only [lenOk] at hl
  refine AC_intro Try.func32 rfl Try.ntmps32 (Nat.le_of_ble_eq_true rfl) fun c hL hQ => ?_
  refine awp_seq ?_
  refine awp_region ?_
  refine awps_stp1 rfl rfl (by decide) (stp_box 1 rfl rfl rfl) rfl ?_
  refine awps_stp0 rfl rfl (by decide) (stp_move (.inr rfl) rfl) ?_
  refine awps_nil ?_
  refine thenQ_nil ?_
  refine awp_seq ?_
  refine awp_drawG 10 mixed rfl rfl rfl rfl ?_
  first | refine MGo_c0 rfl (by decide) (.run rfl (stp_fieldAddr rfl fo_almagestlaw2_Ask_1 rfl)) ?_ | refine MGo_c0 rfl (by decide) (.run rfl (stp_fieldAddr_elp rfl fo_almagestlaw2_Ask_1 rfl)) ?_
  first | refine MGo_c0 rfl (by decide) (.run rfl (stp_load rfl tf_S_api_Term rfl rfl rfl rfl rfl)) ?_ | refine MGo_c0 rfl (by decide) (.run rfl (stp_load_elp1 rfl tf_S_api_Term rfl)) ?_ | refine MGo_c0 rfl (by decide) (.run rfl (stp_load_elpn rfl tf_S_api_Term rfl rfl rfl)) ?_
  refine MGo_c0 rfl (by decide) (.run rfl (stp_call (avs := [_]) true rfl en_almagestlaw0_Terms rfl rfl (Terms_ok T hlT hwT) (fun _ => rfl) rfl)) ?_
  first | refine MGo_c0 rfl (by decide) (.run rfl (stp_fieldAddr rfl fo_almagestlaw2_Ask_2 rfl)) ?_ | refine MGo_c0 rfl (by decide) (.run rfl (stp_fieldAddr_elp rfl fo_almagestlaw2_Ask_2 rfl)) ?_
  first | refine MGo_c0 rfl (by decide) (.run rfl (stp_load rfl tf_S_string rfl rfl rfl rfl rfl)) ?_ | refine MGo_c0 rfl (by decide) (.run rfl (stp_load_elp1 rfl tf_S_string rfl)) ?_ | refine MGo_c0 rfl (by decide) (.run rfl (stp_load_elpn rfl tf_S_string rfl rfl rfl)) ?_
  refine MGo_c0 rfl (by decide) (.run rfl (stp_call (avs := [_]) true rfl en_almagestlaw0_Texts rfl rfl (Texts_ok S hlS hwS) (fun _ => rfl) rfl)) ?_
  refine MGo_c0 rfl (by decide) (.run rfl (stp_add rfl rfl rfl (by omega))) ?_
  first | refine MGo_c0 rfl (by decide) (.run rfl (stp_fieldAddr rfl fo_almagestlaw2_Ask_0 rfl)) ?_ | refine MGo_c0 rfl (by decide) (.run rfl (stp_fieldAddr_elp rfl fo_almagestlaw2_Ask_0 rfl)) ?_
  first | refine MGo_c0 rfl (by decide) (.run rfl (stp_load rfl tf_S_S_api_Bind rfl rfl rfl rfl rfl)) ?_ | refine MGo_c0 rfl (by decide) (.run rfl (stp_load_elp1 rfl tf_S_S_api_Bind rfl)) ?_ | refine MGo_c0 rfl (by decide) (.run rfl (stp_load_elpn rfl tf_S_S_api_Bind rfl rfl rfl)) ?_
  first | refine MGo_c0 rfl (by decide) (.run rfl (stp_len_dat rfl sl_S_S_api_Bind rfl)) ?_ | refine MGo_c0 rfl (by decide) (.run rfl (stp_len_rowd rfl sl_S_S_api_Bind rfl rfl)) ?_ | refine MGo_c0 rfl (by decide) (.run rfl (stp_len_nil rfl sl_S_S_api_Bind rfl)) ?_ | refine MGo_c0 rfl (by decide) (.run rfl (stp_len_vw rfl sl_S_S_api_Bind rfl)) ?_
  refine MGo_nil ⟨rfl, rfl, ?_⟩
  refine awps_stp0 rfl rfl (by decide) (stp_add rfl rfl rfl (by omega)) ?_
  refine awps_stp0 rfl rfl (by decide) (stp_move (.inr rfl) rfl) ?_
  refine awps_nil ?_
  refine thenQ_nil ?_
  refine awp_seq ?_
  refine awp_seq ?_
  refine awp_region ?_
  refine awps_stp0 rfl rfl (by decide) (stp_move (.inr rfl) rfl) ?_
  refine awps_nil ?_
  refine thenQ_nil ?_
  refine awp_block ?_
  refine awp_while (l.length) (fun k => k ≤ l.length ∧ ∀ j, j < k → wgtL wBs (wTs T + wSs S + l.length) (l.take j) < 1048576) (fun k => ⟨[(1, .ptr 1 0), (3, iv (wgtL wBs (wTs T + wSs S + l.length) (l.take k))), (4, iv (k : Int))], [(1, .box (lift false (a2D ⟨l, T, S⟩)))]⟩) (⟨by omega, fun j hj => absurd hj (by omega)⟩) ?_ (fun k hk hp => ?_)
  · exact sub_re (SubT.cons (lk_eq rfl (by first | rfl | simp)) (SubT.cons (lk_eq rfl (by exact int_imm (by simp only [List.take_zero, wgtL]; omega))) (SubT.cons (lk_eq rfl (by first | rfl | simp)) (SubT.nil)))) (SubO.cons (ok_eq rfl (by rfl)) (SubO.nil)) rfl rfl (noL' (noL hL) _)
  have hwk := wgtL_le wBs 9300000000000000 (by omega) (wTs T + wSs S + l.length) (l.take k) (fun u hu => (hF u (List.mem_of_mem_take hu)).2) (by omega)
  have hw0 := wgtL_ge' wBs (wTs T + wSs S + l.length) (l.take k) (fun u hu => (hF u (List.mem_of_mem_take hu)).1)
  refine awp_seq ?_
  refine awp_seq ?_
  refine awp_region ?_
  refine awps_stp0 rfl rfl (by decide) (stp_move (.inl rfl) rfl) ?_
  first | refine awps_stp0 rfl rfl (by decide) (stp_fieldAddr rfl fo_almagestlaw2_Ask_0 rfl) ?_ | refine awps_stp0 rfl rfl (by decide) (stp_fieldAddr_elp rfl fo_almagestlaw2_Ask_0 rfl) ?_
  first | refine awps_stp0 rfl rfl (by decide) (stp_load rfl tf_S_S_api_Bind rfl rfl rfl rfl rfl) ?_ | refine awps_stp0 rfl rfl (by decide) (stp_load_elp1 rfl tf_S_S_api_Bind rfl) ?_ | refine awps_stp0 rfl rfl (by decide) (stp_load_elpn rfl tf_S_S_api_Bind rfl rfl rfl) ?_
  first | refine awps_stp0 rfl rfl (by decide) (stp_len_dat rfl sl_S_S_api_Bind rfl) ?_ | refine awps_stp0 rfl rfl (by decide) (stp_len_rowd rfl sl_S_S_api_Bind rfl rfl) ?_ | refine awps_stp0 rfl rfl (by decide) (stp_len_nil rfl sl_S_S_api_Bind rfl) ?_ | refine awps_stp0 rfl rfl (by decide) (stp_len_vw rfl sl_S_S_api_Bind rfl) ?_
  refine awps_stp0 rfl rfl (by decide) (stp_binI rfl rfl rfl rfl) ?_
  refine awps_stp0 rfl rfl (by decide) (stp_move (.inl rfl) rfl) ?_
  refine awps_split 21 rfl (fun g21 => ?_) (fun g21 => ?_)
  · try simp only [↓str_beq_t, ↓str_beq_f, decide_eq_true_eq, decide_eq_false_iff_not, Bool.not_eq_true', Bool.not_eq_false', Int.not_lt, Int.not_le, beq_iff_eq, beq_eq_false_iff_ne, bne_iff_ne, bne_eq_false_iff_eq, ne_eq] at g21
    obtain ⟨u, hu⟩ := get_of_lt (l := l) (k := k) (by omega)
    have hum := List.mem_of_getElem? hu
    have huw := hF u hum
    have hul := hwB u hum
    refine awps_g0 rfl rfl rfl (by decide) rfl (by decide) (stp_move (.inl rfl) rfl) ?_
    refine awps_g0 rfl rfl rfl (by decide) rfl (by decide) (stp_binI rfl rfl rfl rfl) ?_
    refine awps_stp0 rfl rfl (by decide) (stp_pick rfl rfl rfl) ?_
    refine awps_nil ?_
    refine thenQ_nil ?_
    refine awp_cond rfl (fun c0 => ?_) (fun c0 => ?_)
    · try simp only [↓str_beq_t, ↓str_beq_f, decide_eq_true_eq, decide_eq_false_iff_not, Bool.not_eq_true', Bool.not_eq_false', Int.not_lt, Int.not_le, beq_iff_eq, beq_eq_false_iff_ne, bne_iff_ne, bne_eq_false_iff_eq, ne_eq] at c0
      refine awp_skip ?_
      refine thenQ_nil ?_
      refine awp_seq ?_
      refine awp_block ?_
      refine awp_region ?_
      refine awps_stp0 rfl rfl (by decide) (stp_move (.inl rfl) rfl) ?_
      first | refine awps_stp0 rfl rfl (by decide) (stp_fieldAddr rfl fo_almagestlaw2_Ask_0 rfl) ?_ | refine awps_stp0 rfl rfl (by decide) (stp_fieldAddr_elp rfl fo_almagestlaw2_Ask_0 rfl) ?_
      first | refine awps_stp0 rfl rfl (by decide) (stp_load rfl tf_S_S_api_Bind rfl rfl rfl rfl rfl) ?_ | refine awps_stp0 rfl rfl (by decide) (stp_load_elp1 rfl tf_S_S_api_Bind rfl) ?_ | refine awps_stp0 rfl rfl (by decide) (stp_load_elpn rfl tf_S_S_api_Bind rfl rfl rfl) ?_
      refine awps_stp0 rfl rfl (by decide) (stp_move (.inl rfl) rfl) ?_
      first | refine awps_stp0 rfl rfl (by decide) (stp_indexAddr rfl sl_S_S_api_Bind rfl rfl (by omega) (bdlDs_get hu)) ?_ | refine awps_stp0 rfl rfl (by decide) (stp_indexAddr_rowd rfl sl_S_S_api_Bind rfl rfl rfl (by omega) (bdlDs_get hu)) ?_ | refine awps_stp0 rfl rfl (by decide) (stp_indexAddr_row rfl sl_S_S_api_Bind rfl rfl rfl (by omega) (bdlDs_get hu) (by decide)) ?_
      first | refine awps_stp0 rfl rfl (by decide) (stp_load rfl tf_S_api_Bind rfl rfl rfl rfl rfl) ?_ | refine awps_stp0 rfl rfl (by decide) (stp_load_elp1 rfl tf_S_api_Bind rfl) ?_ | refine awps_stp0 rfl rfl (by decide) (stp_load_elpn rfl tf_S_api_Bind rfl rfl rfl) ?_
      refine awps_call (avs := [_]) true rfl rfl rfl (by decide) en_almagestlaw0_BindsWeight rfl rfl (BindsWeight_ok u hul.1 hul.2) rfl rfl ?_
      refine awps_stp0 rfl rfl (by decide) (stp_add rfl rfl rfl (by omega)) ?_
      refine awps_stp0 rfl rfl (by decide) (stp_move (.inr rfl) rfl) ?_
      refine awps_nil ?_
      refine inQ_nil ?_
      refine thenQ_nil ?_
      refine awp_region ?_
      refine awps_stp0 rfl rfl (by decide) (stp_move (.inl rfl) rfl) ?_
      refine awps_stp0 rfl rfl (by decide) (stp_add rfl rfl rfl (by omega)) ?_
      refine awps_stp0 rfl rfl (by decide) (stp_move (.inr rfl) rfl) ?_
      refine awps_nil ?_
      have hb := wgtL_snoc wBs (wTs T + wSs S + l.length) (l.take k) u (fun j hj => by
        by_cases hjk : j < k
        · have := hp.2 j hjk; rwa [List.take_take, Nat.min_eq_left (by omega)]
        · rw [List.take_of_length_le (by simp; omega)]; omega)
      rw [← take_snoc hu] at hb
      refine thenQ_nil ?_
      refine ⟨?_, ?_, ?_⟩
      · skip
        omega
      · skip
        refine ⟨by omega, fun j hj => ?_⟩
        by_cases hjk : j < k
        · exact hp.2 j hjk
        · rw [show j = k by omega]; omega
      exact sub_re (SubT.cons (lk_eq rfl (by first | rfl | simp)) (SubT.cons (lk_eq rfl (by exact int_imm (by rw [hb]; try omega))) (SubT.cons (lk_eq rfl (by first | rfl | simp)) (SubT.nil)))) (SubO.cons (ok_eq rfl (by rfl)) (SubO.nil)) rfl rfl (noL' (noL hL) _)
    try simp only [↓str_beq_t, ↓str_beq_f, decide_eq_true_eq, decide_eq_false_iff_not, Bool.not_eq_true', Bool.not_eq_false', Int.not_lt, Int.not_le, beq_iff_eq, beq_eq_false_iff_ne, bne_iff_ne, bne_eq_false_iff_eq, ne_eq] at c0
    have hfin : wgtL wBs (wTs T + wSs S + l.length) (l.take k) = wgtL wBs (wTs T + wSs S + l.length) l := ((wgtL_take wBs _ _ k hp.1 hp.2).trans (wgtL_stop _ _ _ (by omega))).symm
    refine awp_exit ?_
    refine thenQ_exit (thenQ_exit (inQ_hit ?_))
    refine thenQ_nil ?_
    refine awp_seq ?_
    refine awp_region ?_
    refine awps_stp0 rfl rfl (by decide) (stp_move (.inl rfl) rfl) ?_
    refine awps_stp0 rfl rfl (by decide) (stp_binI rfl rfl rfl rfl) ?_
    refine awps_stp0 rfl rfl (by decide) (stp_move (.inr rfl) rfl) ?_
    refine awps_nil ?_
    refine thenQ_nil ?_
    refine awp_ret ?_
    -- leaf g21T0F
    refine ret0 (noL hL) (.inl rfl) (resAs_tmp rfl (resAs_nil)) ?_ ?_
    · rfl
    refine ⟨bool_w ?_, rfl⟩
    rw [hfin]
    simp only [heavy2]
    try rfl
  try simp only [↓str_beq_t, ↓str_beq_f, decide_eq_true_eq, decide_eq_false_iff_not, Bool.not_eq_true', Bool.not_eq_false', Int.not_lt, Int.not_le, beq_iff_eq, beq_eq_false_iff_ne, bne_iff_ne, bne_eq_false_iff_eq, ne_eq] at g21
  have hfin : wgtL wBs (wTs T + wSs S + l.length) (l.take k) = wgtL wBs (wTs T + wSs S + l.length) l := by rw [List.take_of_length_le (by omega)]
  refine awps_gs rfl rfl rfl rfl (by decide) rfl (by decide) ?_
  refine awps_gs rfl rfl rfl rfl (by decide) rfl (by decide) ?_
  refine awps_stp0 rfl rfl (by decide) (stp_pick rfl rfl rfl) ?_
  refine awps_nil ?_
  refine thenQ_nil ?_
  refine awp_condF rfl ?_
  refine awp_exit ?_
  refine thenQ_exit (thenQ_exit (inQ_hit ?_))
  refine thenQ_nil ?_
  refine awp_seq ?_
  refine awp_region ?_
  refine awps_stp0 rfl rfl (by decide) (stp_move (.inl rfl) rfl) ?_
  refine awps_stp0 rfl rfl (by decide) (stp_binI rfl rfl rfl rfl) ?_
  refine awps_stp0 rfl rfl (by decide) (stp_move (.inr rfl) rfl) ?_
  refine awps_nil ?_
  refine thenQ_nil ?_
  refine awp_ret ?_
  -- leaf g21F
  refine ret0 (noL hL) (.inl rfl) (resAs_tmp rfl (resAs_nil)) ?_ ?_
  · rfl
  refine ⟨bool_w ?_, rfl⟩
  rw [hfin]
  simp only [heavy2]
  try rfl
def eqBd (a b : Bd) : Bool := decide (a.name = b.name) && eqT 5 a.t b.t
theorem EqBind_ok (a b : Bd) (hd : dle 5 a.t) (ha : a.wf) (hb : b.wf) : PF 79 [.agg (lift false (bdD a)), .agg (lift false (bdD b))] (bv (eqBd a b)) := by
  have ha2 := ha.2
  have hb2 := hb.2
  refine AC_intro Try.func79 rfl Try.ntmps79 (Nat.le_of_ble_eq_true rfl) fun c hL hQ => ?_
  refine awp_seq ?_
  refine awp_region ?_
  refine awps_stp1 rfl rfl (by decide) (stp_box 2 rfl rfl rfl) rfl ?_
  refine awps_stp1 rfl rfl (by decide) (stp_box 3 rfl rfl rfl) rfl ?_
  refine awps_stp0 rfl rfl (by decide) (stp_move (.inr rfl) rfl) ?_
  refine awps_nil ?_
  refine thenQ_nil ?_
  refine awp_seq ?_
  refine awp_region ?_
  first | refine awps_stp0 rfl rfl (by decide) (stp_fieldAddr rfl fo_api_Bind_0 rfl) ?_ | refine awps_stp0 rfl rfl (by decide) (stp_fieldAddr_elp rfl fo_api_Bind_0 rfl) ?_
  first | refine awps_stp0 rfl rfl (by decide) (stp_load rfl tf_string rfl rfl rfl rfl rfl) ?_ | refine awps_stp0 rfl rfl (by decide) (stp_load_elp1 rfl tf_string rfl) ?_ | refine awps_stp0 rfl rfl (by decide) (stp_load_elpn rfl tf_string rfl rfl rfl) ?_
  first | refine awps_stp0 rfl rfl (by decide) (stp_fieldAddr rfl fo_api_Bind_0 rfl) ?_ | refine awps_stp0 rfl rfl (by decide) (stp_fieldAddr_elp rfl fo_api_Bind_0 rfl) ?_
  first | refine awps_stp0 rfl rfl (by decide) (stp_load rfl tf_string rfl rfl rfl rfl rfl) ?_ | refine awps_stp0 rfl rfl (by decide) (stp_load_elp1 rfl tf_string rfl) ?_ | refine awps_stp0 rfl rfl (by decide) (stp_load_elpn rfl tf_string rfl rfl rfl) ?_
  refine awps_stp0 rfl rfl (by decide) (stp_binS rfl rfl rfl rfl) ?_
  refine awps_stp0 rfl rfl (by decide) (stp_move (.inl rfl) rfl) ?_
  refine awps_split 10 rfl (fun g10 => ?_) (fun g10 => ?_)
  · try simp only [↓str_beq_t, ↓str_beq_f, decide_eq_true_eq, decide_eq_false_iff_not, Bool.not_eq_true', Bool.not_eq_false', Int.not_lt, Int.not_le, beq_iff_eq, beq_eq_false_iff_ne, bne_iff_ne, bne_eq_false_iff_eq, ne_eq] at g10
    first | refine awps_g0 rfl rfl rfl (by decide) rfl (by decide) (stp_fieldAddr rfl fo_api_Bind_1 rfl) ?_ | refine awps_g0 rfl rfl rfl (by decide) rfl (by decide) (stp_fieldAddr_elp rfl fo_api_Bind_1 rfl) ?_
    first | refine awps_g0 rfl rfl rfl (by decide) rfl (by decide) (stp_load_all rfl tf_api_Term rfl rfl rfl rfl) ?_ | refine awps_g0 rfl rfl rfl (by decide) rfl (by decide) (stp_load rfl tf_api_Term rfl rfl rfl rfl rfl) ?_ | refine awps_g0 rfl rfl rfl (by decide) rfl (by decide) (stp_load_elpa rfl tf_api_Term rfl rfl) ?_ | refine awps_g0 rfl rfl rfl (by decide) rfl (by decide) (stp_load_elpn rfl tf_api_Term rfl rfl rfl) ?_
    first | refine awps_g0 rfl rfl rfl (by decide) rfl (by decide) (stp_fieldAddr rfl fo_api_Bind_1 rfl) ?_ | refine awps_g0 rfl rfl rfl (by decide) rfl (by decide) (stp_fieldAddr_elp rfl fo_api_Bind_1 rfl) ?_
    first | refine awps_g0 rfl rfl rfl (by decide) rfl (by decide) (stp_load_all rfl tf_api_Term rfl rfl rfl rfl) ?_ | refine awps_g0 rfl rfl rfl (by decide) rfl (by decide) (stp_load rfl tf_api_Term rfl rfl rfl rfl rfl) ?_ | refine awps_g0 rfl rfl rfl (by decide) rfl (by decide) (stp_load_elpa rfl tf_api_Term rfl rfl) ?_ | refine awps_g0 rfl rfl rfl (by decide) rfl (by decide) (stp_load_elpn rfl tf_api_Term rfl rfl rfl) ?_
    refine awps_g0 rfl rfl rfl (by decide) rfl (by decide) (stp_call (avs := [_, _]) true rfl en_almagestref0_EqTerm rfl rfl (EqTerm_ok 5 a.t b.t hd ha2 hb2) (fun _ => rfl) rfl) ?_
    refine awps_stp0 rfl rfl (by decide) (stp_pick rfl rfl rfl) ?_
    refine awps_stp0 rfl rfl (by decide) (stp_move (.inr rfl) rfl) ?_
    refine awps_nil ?_
    refine thenQ_nil ?_
    refine awp_ret ?_
    -- leaf g10T
    refine ret0 (noL hL) (.inl rfl) (resAs_tmp rfl (resAs_nil)) ?_ ?_
    · rfl
    refine ⟨bool_w ?_, rfl⟩
    simp_all [eqBd]
  try simp only [↓str_beq_t, ↓str_beq_f, decide_eq_true_eq, decide_eq_false_iff_not, Bool.not_eq_true', Bool.not_eq_false', Int.not_lt, Int.not_le, beq_iff_eq, beq_eq_false_iff_ne, bne_iff_ne, bne_eq_false_iff_eq, ne_eq] at g10
  refine awps_gs rfl rfl rfl rfl (by decide) rfl (by decide) ?_
  refine awps_gs rfl rfl rfl rfl (by decide) rfl (by decide) ?_
  refine awps_gs rfl rfl rfl rfl (by decide) rfl (by decide) ?_
  refine awps_gs rfl rfl rfl rfl (by decide) rfl (by decide) ?_
  refine awps_gs rfl rfl rfl rfl (by decide) rfl (by decide) ?_
  refine awps_stp0 rfl rfl (by decide) (stp_pick rfl rfl rfl) ?_
  refine awps_stp0 rfl rfl (by decide) (stp_move (.inr rfl) rfl) ?_
  refine awps_nil ?_
  refine thenQ_nil ?_
  refine awp_ret ?_
  -- leaf g10F
  refine ret0 (noL hL) (.inl rfl) (resAs_tmp rfl (resAs_nil)) ?_ ?_
  · rfl
  refine ⟨bool_w ?_, rfl⟩
  simp_all [eqBd]
def eqBds : List Bd → List Bd → Bool
  | [], [] => true
  | a :: l, b :: m => eqBd a b && eqBds l m
  | _, _ => false
theorem eqBds_len : ∀ {l m : List Bd}, l.length ≠ m.length → eqBds l m = false
  | [], [], h => absurd rfl h
  | a :: l, b :: m, h => by simp only [eqBds, eqBds_len (l := l) (m := m) (by simpa using h), Bool.and_false]
  | [], _ :: _, _ => rfl
  | _ :: _, [], _ => rfl
theorem eqBds_true : ∀ {l m : List Bd}, l.length = m.length → (∀ (j : Nat) (a b : Bd), l[j]? = some a → m[j]? = some b → eqBd a b = true) → eqBds l m = true
  | [], [], _, _ => rfl
  | a :: l, b :: m, hl, h => by
    have h0 := h 0 a b rfl rfl
    have ih := eqBds_true (l := l) (m := m) (by simpa using hl) (fun j x y hx hy => h (j + 1) x y (by simpa using hx) (by simpa using hy))
    simp [eqBds, h0, ih]
  | [], _ :: _, hl, _ => by simp at hl
  | _ :: _, [], hl, _ => by simp at hl
theorem eqBds_false : ∀ {l m : List Bd} (k : Nat) {a b : Bd}, l[k]? = some a → m[k]? = some b → eqBd a b = false → eqBds l m = false
  | a :: l, b :: m, 0, x, y, hx, hy, h => by
    simp only [List.getElem?_cons_zero, Option.some.injEq] at hx hy
    subst hx; subst hy
    simp [eqBds, h]
  | a :: l, b :: m, k + 1, x, y, hx, hy, h => by
    have := eqBds_false (l := l) (m := m) k (by simpa using hx) (by simpa using hy) h
    simp [eqBds, this]
  | [], _, _, _, _, hx, _, _ => by simp at hx
  | _ :: _, [], _, _, _, _, hy, _ => by simp at hy
theorem EqBinds_ok (x y : List Bd) (hd : ∀ u ∈ x, dle 5 u.t) (wx : ∀ u ∈ x, u.wf) (wy : ∀ u ∈ y, u.wf) (lx : x.length ≤ 140737488351232) (ly : y.length ≤ 140737488351232) : PF 39 [bdA x, bdA y] (bv (eqBds x y)) := by
  have hlx := bdDs_length x
  have hly := bdDs_length y
  refine AC_intro Try.func39 rfl Try.ntmps39 (Nat.le_of_ble_eq_true rfl) fun c hL hQ => ?_
  refine awp_seq ?_
  refine awp_region ?_
  refine awps_stp0 rfl rfl (by decide) (stp_move (.inr rfl) rfl) ?_
  refine awps_nil ?_
  refine thenQ_nil ?_
  refine awp_seq ?_
  refine awp_seq ?_
  refine awp_region ?_
  refine awps_stp0 rfl rfl (by decide) (stp_move (.inl rfl) rfl) ?_
  first | refine awps_stp0 rfl rfl (by decide) (stp_len_dat rfl sl_S_api_Bind rfl) ?_ | refine awps_stp0 rfl rfl (by decide) (stp_len_rowd rfl sl_S_api_Bind rfl rfl) ?_ | refine awps_stp0 rfl rfl (by decide) (stp_len_nil rfl sl_S_api_Bind rfl) ?_ | refine awps_stp0 rfl rfl (by decide) (stp_len_vw rfl sl_S_api_Bind rfl) ?_
  refine awps_stp0 rfl rfl (by decide) (stp_move (.inl rfl) rfl) ?_
  first | refine awps_stp0 rfl rfl (by decide) (stp_len_dat rfl sl_S_api_Bind rfl) ?_ | refine awps_stp0 rfl rfl (by decide) (stp_len_rowd rfl sl_S_api_Bind rfl rfl) ?_ | refine awps_stp0 rfl rfl (by decide) (stp_len_nil rfl sl_S_api_Bind rfl) ?_ | refine awps_stp0 rfl rfl (by decide) (stp_len_vw rfl sl_S_api_Bind rfl) ?_
  refine awps_stp0 rfl rfl (by decide) (stp_binI rfl rfl rfl rfl) ?_
  refine awps_nil ?_
  refine thenQ_nil ?_
  refine awp_cond rfl (fun c0 => ?_) (fun c0 => ?_)
  · try simp only [↓str_beq_t, ↓str_beq_f, decide_eq_true_eq, decide_eq_false_iff_not, Bool.not_eq_true', Bool.not_eq_false', Int.not_lt, Int.not_le, beq_iff_eq, beq_eq_false_iff_ne, bne_iff_ne, bne_eq_false_iff_eq, ne_eq] at c0
    refine awp_seq ?_
    refine awp_region ?_
    refine awps_stp0 rfl rfl (by decide) (stp_move (.inr rfl) rfl) ?_
    refine awps_nil ?_
    refine thenQ_nil ?_
    refine awp_ret ?_
    refine thenQ_ret (?_)
    -- leaf 0T
    refine ret0 (noL hL) (.inl rfl) (resAs_tmp rfl (resAs_nil)) ?_ ?_
    · rfl
    exact ⟨bool_w (eqBds_len (by omega)).symm, rfl⟩
  try simp only [↓str_beq_t, ↓str_beq_f, decide_eq_true_eq, decide_eq_false_iff_not, Bool.not_eq_true', Bool.not_eq_false', Int.not_lt, Int.not_le, beq_iff_eq, beq_eq_false_iff_ne, bne_iff_ne, bne_eq_false_iff_eq, ne_eq] at c0
  refine awp_skip ?_
  refine thenQ_nil ?_
  refine awp_seq ?_
  refine awp_seq ?_
  refine awp_region ?_
  refine awps_stp0 rfl rfl (by decide) (stp_move (.inr rfl) rfl) ?_
  refine awps_nil ?_
  refine thenQ_nil ?_
  refine awp_block ?_
  refine awp_while (x.length) (fun k => k ≤ x.length ∧ ∀ j a b, j < k → x[j]? = some a → y[j]? = some b → eqBd a b = true) (fun k => ⟨[(0, bdA x), (1, bdA y), (5, iv (k : Int))], []⟩) (⟨by omega, fun j a b hj => absurd hj (by omega)⟩) ?_ (fun k hk hp => ?_)
  · exact sub_re (SubT.cons (lk_eq rfl (by first | rfl | simp)) (SubT.cons (lk_eq rfl (by first | rfl | simp)) (SubT.cons (lk_eq rfl (by first | rfl | simp)) (SubT.nil)))) (SubO.nil) rfl rfl (noL' (noL hL) _)
  refine awp_seq ?_
  refine awp_seq ?_
  refine awp_region ?_
  refine awps_stp0 rfl rfl (by decide) (stp_move (.inl rfl) rfl) ?_
  refine awps_stp0 rfl rfl (by decide) (stp_move (.inl rfl) rfl) ?_
  first | refine awps_stp0 rfl rfl (by decide) (stp_len_dat rfl sl_S_api_Bind rfl) ?_ | refine awps_stp0 rfl rfl (by decide) (stp_len_rowd rfl sl_S_api_Bind rfl rfl) ?_ | refine awps_stp0 rfl rfl (by decide) (stp_len_nil rfl sl_S_api_Bind rfl) ?_ | refine awps_stp0 rfl rfl (by decide) (stp_len_vw rfl sl_S_api_Bind rfl) ?_
  refine awps_stp0 rfl rfl (by decide) (stp_binI rfl rfl rfl rfl) ?_
  refine awps_nil ?_
  refine thenQ_nil ?_
  refine awp_cond rfl (fun c1 => ?_) (fun c1 => ?_)
  · try simp only [↓str_beq_t, ↓str_beq_f, decide_eq_true_eq, decide_eq_false_iff_not, Bool.not_eq_true', Bool.not_eq_false', Int.not_lt, Int.not_le, beq_iff_eq, beq_eq_false_iff_ne, bne_iff_ne, bne_eq_false_iff_eq, ne_eq] at c1
    obtain ⟨u, hu⟩ := get_of_lt (l := x) (k := k) (by omega)
    obtain ⟨v, hv⟩ := get_of_lt (l := y) (k := k) (by omega)
    refine awp_skip ?_
    refine thenQ_nil ?_
    refine awp_seq ?_
    refine awp_block ?_
    refine awp_seq ?_
    refine awp_drawG 8 mixed rfl rfl rfl rfl ?_
    refine MGo_c0 rfl (by decide) (.run rfl (stp_move (.inl rfl) rfl)) ?_
    refine MGo_c0 rfl (by decide) (.run rfl (stp_move (.inl rfl) rfl)) ?_
    first | refine MGo_c0 rfl (by decide) (.run rfl (stp_indexAddr rfl sl_S_api_Bind rfl rfl (by omega) (bdDs_get hu))) ?_ | refine MGo_c0 rfl (by decide) (.run rfl (stp_indexAddr_rowd rfl sl_S_api_Bind rfl rfl rfl (by omega) (bdDs_get hu))) ?_ | refine MGo_c0 rfl (by decide) (.run rfl (stp_indexAddr_row rfl sl_S_api_Bind rfl rfl rfl (by omega) (bdDs_get hu) (by decide))) ?_
    first | refine MGo_c0 rfl (by decide) (.run rfl (stp_load_all rfl tf_api_Bind rfl rfl rfl rfl)) ?_ | refine MGo_c0 rfl (by decide) (.run rfl (stp_load rfl tf_api_Bind rfl rfl rfl rfl rfl)) ?_ | refine MGo_c0 rfl (by decide) (.run rfl (stp_load_elpa rfl tf_api_Bind rfl rfl)) ?_ | refine MGo_c0 rfl (by decide) (.run rfl (stp_load_elpn rfl tf_api_Bind rfl rfl rfl)) ?_
    refine MGo_c0 rfl (by decide) (.run rfl (stp_move (.inl rfl) rfl)) ?_
    refine MGo_c0 rfl (by decide) (.run rfl (stp_move (.inl rfl) rfl)) ?_
    first | refine MGo_c0 rfl (by decide) (.run rfl (stp_indexAddr rfl sl_S_api_Bind rfl rfl (by omega) (bdDs_get hv))) ?_ | refine MGo_c0 rfl (by decide) (.run rfl (stp_indexAddr_rowd rfl sl_S_api_Bind rfl rfl rfl (by omega) (bdDs_get hv))) ?_ | refine MGo_c0 rfl (by decide) (.run rfl (stp_indexAddr_row rfl sl_S_api_Bind rfl rfl rfl (by omega) (bdDs_get hv) (by decide))) ?_
    first | refine MGo_c0 rfl (by decide) (.run rfl (stp_load_all rfl tf_api_Bind rfl rfl rfl rfl)) ?_ | refine MGo_c0 rfl (by decide) (.run rfl (stp_load rfl tf_api_Bind rfl rfl rfl rfl rfl)) ?_ | refine MGo_c0 rfl (by decide) (.run rfl (stp_load_elpa rfl tf_api_Bind rfl rfl)) ?_ | refine MGo_c0 rfl (by decide) (.run rfl (stp_load_elpn rfl tf_api_Bind rfl rfl rfl)) ?_
    refine MGo_nil ⟨rfl, rfl, ?_⟩
    refine awps_call (avs := [_, _]) true rfl rfl rfl (by decide) en_almagestref0_EqBind rfl rfl (EqBind_ok u v (hd u (List.mem_of_getElem? hu)) (wx u (List.mem_of_getElem? hu)) (wy v (List.mem_of_getElem? hv))) rfl rfl ?_
    refine awps_stp0 rfl rfl (by decide) (stp_not rfl rfl) ?_
    refine awps_nil ?_
    refine thenQ_nil ?_
    refine awp_cond rfl (fun c2 => ?_) (fun c2 => ?_)
    · try simp only [↓str_beq_t, ↓str_beq_f, decide_eq_true_eq, decide_eq_false_iff_not, Bool.not_eq_true', Bool.not_eq_false', Int.not_lt, Int.not_le, beq_iff_eq, beq_eq_false_iff_ne, bne_iff_ne, bne_eq_false_iff_eq, ne_eq] at c2
      refine awp_seq ?_
      refine awp_region ?_
      refine awps_stp0 rfl rfl (by decide) (stp_move (.inr rfl) rfl) ?_
      refine awps_nil ?_
      refine thenQ_nil ?_
      refine awp_ret ?_
      refine inQ_ret (thenQ_ret (thenQ_ret (inQ_ret (thenQ_ret (?_)))))
      -- leaf 0F1T2T
      refine ret0 (noL hL) (.inl rfl) (resAs_tmp rfl (resAs_nil)) ?_ ?_
      · rfl
      exact ⟨bool_w (eqBds_false k hu hv c2).symm, rfl⟩
    try simp only [↓str_beq_t, ↓str_beq_f, decide_eq_true_eq, decide_eq_false_iff_not, Bool.not_eq_true', Bool.not_eq_false', Int.not_lt, Int.not_le, beq_iff_eq, beq_eq_false_iff_ne, bne_iff_ne, bne_eq_false_iff_eq, ne_eq] at c2
    refine awp_skip ?_
    refine inQ_nil ?_
    refine thenQ_nil ?_
    refine awp_region ?_
    refine awps_stp0 rfl rfl (by decide) (stp_move (.inl rfl) rfl) ?_
    refine awps_stp0 rfl rfl (by decide) (stp_add rfl rfl rfl (by omega)) ?_
    refine awps_stp0 rfl rfl (by decide) (stp_move (.inr rfl) rfl) ?_
    refine awps_nil ?_
    refine thenQ_nil ?_
    refine ⟨?_, ?_, ?_⟩
    · skip
      omega
    · skip
      refine ⟨by omega, fun j a b hj ha hb => ?_⟩
      by_cases hjk : j < k
      · exact hp.2 j a b hjk ha hb
      · rw [show j = k by omega] at ha hb; rw [hu] at ha; rw [hv] at hb; cases ha; cases hb; exact c2
    exact sub_re (SubT.cons (lk_eq rfl (by first | rfl | simp)) (SubT.cons (lk_eq rfl (by first | rfl | simp)) (SubT.cons (lk_eq rfl (by first | rfl | simp)) (SubT.nil)))) (SubO.nil) rfl rfl (noL' (noL hL) _)
  try simp only [↓str_beq_t, ↓str_beq_f, decide_eq_true_eq, decide_eq_false_iff_not, Bool.not_eq_true', Bool.not_eq_false', Int.not_lt, Int.not_le, beq_iff_eq, beq_eq_false_iff_ne, bne_iff_ne, bne_eq_false_iff_eq, ne_eq] at c1
  refine awp_exit ?_
  refine thenQ_exit (thenQ_exit (inQ_hit ?_))
  refine thenQ_nil ?_
  refine awp_seq ?_
  refine awp_region ?_
  refine awps_stp0 rfl rfl (by decide) (stp_move (.inr rfl) rfl) ?_
  refine awps_nil ?_
  refine thenQ_nil ?_
  refine awp_ret ?_
  -- leaf 0F1F
  refine ret0 (noL hL) (.inl rfl) (resAs_tmp rfl (resAs_nil)) ?_ ?_
  · rfl
  exact ⟨bool_w (eqBds_true (by omega) (fun j a b ha hb => hp.2 j a b (by have := (List.getElem?_eq_some_iff.1 ha).1; omega) ha hb)).symm, rfl⟩
end Go.Proofs.Ytdecgkhdbfgldaa

set_option linter.unusedVariables false
set_option linter.unusedSimpArgs false
namespace Go.Proofs.Ytdecgkhdbfgldaa
open Go
theorem eqL_iff (f : Tm → Tm → Bool) : ∀ (l m : List Tm), (∀ u v, u ∈ l → (f u v = true ↔ u = v)) → (eqL f l m = true ↔ l = m)
  | [], [], _ => by simp [eqL]
  | [], _ :: _, _ => by simp [eqL]
  | _ :: _, [], _ => by simp [eqL]
  | a :: l, b :: m, h => by
    have ih := eqL_iff f l m (fun u v hu => h u v (by simp [hu]))
    simp only [eqL, Bool.and_eq_true, h a b (by simp), ih, List.cons.injEq]
theorem bext {a b : ByteArray} (h : a.data.toList = b.data.toList) : a = b := by
  cases a; cases b; congr 1; exact Array.toList_inj.1 h
theorem eqT_iff : ∀ (d : Nat) (a b : Tm), dle d a → (eqT d a b = true ↔ a = b)
  | 0, a, b, h => h.elim
  | d + 1, a, b, h => by
    have ih := eqL_iff (eqT d) a.args b.args (fun u v hu => eqT_iff d u v (h u hu))
    rw [eqT]
    simp only [Bool.and_eq_true, decide_eq_true_eq, ih, data_inj]
    cases a; cases b
    simp only [Tm.mk.injEq]
    constructor
    · rintro ⟨⟨⟨h1, h2⟩, h3⟩, h4⟩; exact ⟨h1, bext h2, h3, h4⟩
    · rintro ⟨h1, h2, h3, h4⟩; exact ⟨⟨⟨h1, by rw [h2]⟩, h3⟩, h4⟩
theorem eqT_self {a : Tm} (h : dle 5 a) : eqT 5 a a = true := (eqT_iff 5 a a h).2 rfl
theorem eqBds_self : ∀ {l : List Bd}, (∀ b ∈ l, dle 5 b.t) → eqBds l l = true
  | [], _ => rfl
  | a :: l, h => by
    rw [eqBds, eqBd, eqT_self (h a (by simp)), eqBds_self fun b hb => h b (by simp [hb])]
    simp
theorem apply_zero {l : List Bd} {t : Tm} (h : applyE l t = 0) : mayB l = true ∧ mayT t = true ∧ mayT (putT l t) = true ∧ applyT l t = putT l t := by
  by_cases hc : mayB l = true ∧ mayT t = true
  · rw [applyE, if_pos hc] at h
    obtain ⟨h1, h2⟩ := into_may h
    exact ⟨hc.1, hc.2, h1, by rw [applyT, if_pos hc, h2]⟩
  · rw [applyE, if_neg hc] at h; cases h
theorem apply_of {l : List Bd} {t : Tm} (h1 : mayB l = true) (h2 : mayT t = true) (h3 : mayT (putT l t) = true) : applyE l t = 0 ∧ applyT l t = putT l t := by
  rw [applyE, applyT, if_pos ⟨h1, h2⟩, if_pos ⟨h1, h2⟩, intoE, intoT, if_pos h3, if_pos h3]
  exact ⟨rfl, rfl⟩
theorem apply_twice {l : List Bd} (hw : ∀ b ∈ l, b.wf) {t : Tm} (h : applyE l t = 0) : applyE l (applyT l t) = 0 ∧ applyT l (applyT l t) = applyT l t := by
  obtain ⟨h1, h2, h3, h4⟩ := apply_zero h
  have hG := (mayB_iff hw).1 h1
  have e1 := putT_sub (may_dle h2) l
  have e2 := putT_sub (may_dle h3) l
  have e3 : putT l (putT l t) = putT l t := by rw [e2, e1, ap_idem hG]
  rw [h4]
  obtain ⟨k1, k2⟩ := apply_of h1 h3 (by rw [e3]; exact h3)
  exact ⟨k1, by rw [k2, e3]⟩
theorem applyT_wf {l : List Bd} (hw : ∀ b ∈ l, b.wf) {t : Tm} (ht : t.wf) : (applyT l t).wf := by
  unfold applyT
  split
  · rename_i h; exact intoT_wf (mayB_bok h.1 hw) ht
  · exact zeroTm_wf
theorem set_zero {l : List Bd} (hw : ∀ b ∈ l, b.wf) {s : ByteArray} (hs : s.size ≤ 140737488351232) {t : Tm} (ht : t.wf) (h : setE l s t = 0) : mayT t = true ∧ GB (setL l s t) ∧ gB (setL l s t) s = t ∧ hasB (setL l s t) s = true := by
  by_cases hc : setC l s t = true
  · rw [setE, if_pos hc] at h
    rw [setL, if_pos hc]
    simp only [setC, Bool.and_eq_true, Bool.not_eq_true', Bool.or_eq_false_iff] at hc
    obtain ⟨⟨⟨h1, h2⟩, h3⟩, h4, h5⟩ := hc
    have hG := (mayB_iff hw).1 h1
    have hv : ∀ y, t.occ y → setP l s y = false := fun y hy => by
      have := List.any_eq_false.1 h5 y ((note5 (may_dle h3) y).2 hy)
      simpa using this
    have ho : ¬ t.occ s := fun hy => by have := hv s hy; simp [setP] at this
    obtain ⟨g1, g2, g3, g4⟩ := stand_spec hG h2 hs ht h3 h4 ho (fun y hy => by have := hv y hy; simp only [setP, Bool.or_eq_false_iff] at this; exact this.1) h
    refine ⟨h3, g1, ?_, ?_⟩
    · rw [g3, gB_none hG.ris h4, varT_sub, gB_one, if_pos rfl]
    · rw [g4]; simp
  · rw [setE, if_neg hc] at h; cases h
theorem get_of {l : List Bd} (h : GB l) {s : ByteArray} (hs : hasB l s = true) : getE l s = 0 ∧ getT l s = gB l s := by
  have hm := (mayB_iff fun b hb => (h.el b hb).1).2 h
  have hsome := (lookB_has l s h.ris).1
  rw [hs] at hsome
  rw [getE, getT, if_pos hm, if_pos hs, if_pos ⟨hm, hs⟩, lookT, gB]
  cases hh : lookB l s with
  | none => rw [hh] at hsome; cases hsome
  | some t => exact ⟨rfl, rfl⟩
theorem getT_wf {l : List Bd} (hw : ∀ b ∈ l, b.wf) {s : ByteArray} : (getT l s).wf := by
  unfold getT
  split
  · rename_i h
    rw [lookT]
    cases hh : lookB l s with
    | none => exact zeroTm_wf
    | some t => exact ((mayB_bok h.1 hw).look hh).1
  · exact zeroTm_wf
theorem setL_wf {l : List Bd} (hw : ∀ b ∈ l, b.wf) {s : ByteArray} (hs : s.size ≤ 140737488351232) {t : Tm} (ht : t.wf) : ∀ b ∈ setL l s t, b.wf := by
  intro b hb
  unfold setL at hb
  split at hb
  · rename_i hc
    unfold standL at hb
    split at hb
    · cases hb
    · simp only [setC, Bool.and_eq_true] at hc
      have hok := mayB_bok hc.1.1.1 hw
      rcases (mem_ins _ _ _ _).1 hb with hb | rfl
      · obtain ⟨c, hc2, rfl⟩ := List.mem_map.1 hb
        exact ⟨(hw c hc2).1, putT_wf (one_bok hs ht hc.1.2) (hw c hc2).2⟩
      · exact ⟨hs, ht⟩
  · cases hb
theorem ris_ext : ∀ {l m : List Bd}, RisB l → RisB m → (∀ b, b ∈ l ↔ b ∈ m) → l = m
  | [], [], _, _, _ => rfl
  | [], b :: m, _, _, h => by have := (h b).2 (by simp); cases this
  | a :: l, [], _, _, h => by have := (h a).1 (by simp); cases this
  | a :: l, b :: m, hl, hm, h => by
    have h1 := List.pairwise_cons.1 hl
    have h2 := List.pairwise_cons.1 hm
    have hab : a = b := by
      rcases List.mem_cons.1 ((h a).1 (by simp)) with e | ha
      · exact e
      · rcases List.mem_cons.1 ((h b).2 (by simp)) with e | hb
        · exact e.symm
        · have := ltS_trans (h2.1 a ha) (h1.1 b hb)
          rw [ltS_irrefl] at this; cases this
    subst hab
    have hno : ∀ {l : List Bd}, (∀ x ∈ l, ltS a.name x.name = true) → a ∉ l := fun h ha => by have := h a ha; rw [ltS_irrefl] at this; cases this
    rw [ris_ext h1.2 h2.2 fun x => ?_]
    have hx := h x
    simp only [List.mem_cons] at hx
    constructor
    · intro hxl
      rcases hx.1 (.inr hxl) with rfl | h
      · exact absurd hxl (hno h1.1)
      · exact h
    · intro hxm
      rcases hx.2 (.inr hxm) with rfl | h
      · exact absurd hxm (hno h2.1)
      · exact h
structure RE (l : List Bd) : Prop where
  ris : RisB l
  el : ∀ b ∈ l, b.wf ∧ mayT b.t = true
theorem lookT_mem {l : List Bd} (h : RisB l) {b : Bd} (hb : b ∈ l) : lookT l b.name = b.t := by
  have hs : hasB l b.name = true := (hasB_iff _ _).2 ⟨b, hb, rfl⟩
  have h1 := gB_mem h hb
  have h2 := (lookB_has l b.name h).1
  rw [hs] at h2
  rw [gB] at h1
  rw [lookT]
  cases hh : lookB l b.name with
  | none => rw [hh] at h2; cases h2
  | some t => rw [hh] at h1; exact h1
def Agree (a b : List Bd) : Prop := ∀ x ∈ a, ∀ y ∈ b, x.name = y.name → x.t = y.t
theorem bothStep_mem {x : List Bd} {y : Bd} (hx : RE x) (hy : bothBad x y = false) (b : Bd) : b ∈ bothStep x y ↔ b ∈ x ∨ b = y := by
  unfold bothStep
  split
  · rename_i hh
    obtain ⟨c, hc, e⟩ := (hasB_iff _ _).1 hh
    have ht : c.t = y.t := by
      simp only [bothBad, hh, Bool.true_and, Bool.not_eq_false', decide_eq_true_eq] at hy
      rw [← e, lookT_mem hx.ris hc] at hy
      exact (eqT_iff 5 _ _ (may_dle (hx.el c hc).2)).1 ((cmpT_zero 5 _ _ (may_dle (hx.el c hc).2)).1 hy)
    have hcy : c = y := by cases c; cases y; simp only at e ht; subst e; subst ht; rfl
    subst hcy
    constructor
    · intro h; exact .inl h
    · rintro (h | rfl)
      · exact h
      · exact hc
  · exact mem_ins _ _ _ _
theorem bothStep_RE {x : List Bd} {y : Bd} (hx : RE x) (hy : y.wf ∧ mayT y.t = true) : RE (bothStep x y) := by
  unfold bothStep
  split
  · exact hx
  · rename_i hh
    refine ⟨ins_ris hx.ris (by simpa using hh), fun b hb => ?_⟩
    rcases (mem_ins _ _ _ _).1 hb with h | rfl
    · exact hx.el b h
    · exact hy
theorem bothX_spec : ∀ (b : List Bd) (x : List Bd), RE x → RisB b → (∀ y ∈ b, y.wf ∧ mayT y.t = true) → (bothOk x b = true ↔ Agree x b) ∧ (bothOk x b = true → RE (bothX x b) ∧ ∀ c, c ∈ bothX x b ↔ c ∈ x ∨ c ∈ b)
  | [], x, hx, _, _ => ⟨⟨(fun _ a _ y hy => by cases hy), fun _ => rfl⟩, fun _ => ⟨hx, fun c => by simp [bothX]⟩⟩
  | y :: b, x, hx, hr, hy => by
    have hr2 := List.pairwise_cons.1 hr
    have h1 := bothStep_RE hx (hy y (by simp))
    obtain ⟨i1, i2⟩ := bothX_spec b (bothStep x y) h1 hr2.2 fun z hz => hy z (by simp [hz])
    have hbad : bothBad x y = false ↔ ∀ a ∈ x, a.name = y.name → a.t = y.t := by
      constructor
      · intro h a ha e
        have hh : hasB x y.name = true := (hasB_iff _ _).2 ⟨a, ha, e⟩
        simp only [bothBad, hh, Bool.true_and, Bool.not_eq_false', decide_eq_true_eq] at h
        rw [← e, lookT_mem hx.ris ha] at h
        exact (eqT_iff 5 _ _ (may_dle (hx.el a ha).2)).1 ((cmpT_zero 5 _ _ (may_dle (hx.el a ha).2)).1 h)
      · intro h
        cases hh : hasB x y.name with
        | false => simp [bothBad, hh]
        | true =>
          obtain ⟨a, ha, e⟩ := (hasB_iff _ _).1 hh
          simp only [bothBad, hh, Bool.true_and, Bool.not_eq_false', decide_eq_true_eq]
          rw [← e, lookT_mem hx.ris ha, h a ha e]
          have hd : dle 5 y.t := by rw [← h a ha e]; exact may_dle (hx.el a ha).2
          exact (cmpT_zero 5 _ _ hd).2 (eqT_self hd)
    refine ⟨?_, fun h => ?_⟩
    · rw [bothOk, Bool.and_eq_true, i1, Bool.not_eq_true']
      constructor
      · rintro ⟨h2, h3⟩ a ha z hz e
        rcases List.mem_cons.1 hz with rfl | hz
        · exact hbad.1 h2 a ha e
        · exact h3 a ((bothStep_mem hx h2 a).2 (.inl ha)) z hz e
      · intro h
        have h2 := hbad.2 fun a ha e => h a ha y (by simp) e
        refine ⟨h2, fun a ha z hz e => ?_⟩
        rcases (bothStep_mem hx h2 a).1 ha with ha | rfl
        · exact h a ha z (by simp [hz]) e
        · have := hr2.1 z hz; rw [e, ltS_irrefl] at this; cases this
    · rw [bothOk, Bool.and_eq_true, Bool.not_eq_true'] at h
      obtain ⟨k1, k2⟩ := i2 h.2
      have e : bothX x (y :: b) = bothX (bothStep x y) b := rfl
      rw [e]
      refine ⟨k1, fun c => ?_⟩
      rw [k2, bothStep_mem hx h.1]
      simp only [List.mem_cons]
      constructor
      · rintro ((h | h) | h) <;> simp [h]
      · rintro (h | h | h) <;> simp [h]
theorem join_comm {a b : List Bd} (ha : ∀ x ∈ a, x.wf) (hb : ∀ x ∈ b, x.wf) : joinE a b = joinE b a ∧ joinL a b = joinL b a ∧ ∀ x ∈ joinL a b, x.wf ∧ dle 5 x.t := by
  have hc : joinC a b = joinC b a := by
    unfold joinC
    cases mayB a <;> cases mayB b <;> cases groundL a <;> cases groundL b <;> rfl
  rw [joinE, joinE, joinL, joinL, ← hc]
  cases hj : joinC a b with
  | false => simp
  | true =>
    simp only [if_true]
    simp only [joinC, Bool.and_eq_true] at hj
    have oa := mayB_bok hj.1.1.1 ha
    have ob := mayB_bok hj.1.1.2 hb
    have ra : RE a := ⟨oa.ris, oa.el⟩
    have rb : RE b := ⟨ob.ris, ob.el⟩
    obtain ⟨p1, p2⟩ := bothX_spec b a ra ob.ris ob.el
    obtain ⟨q1, q2⟩ := bothX_spec a b rb oa.ris oa.el
    have hsym : bothOk a b = true ↔ bothOk b a = true := by
      rw [p1, q1]
      exact ⟨fun h x hx y hy e => (h y hy x hx e.symm).symm, fun h x hx y hy e => (h y hy x hx e.symm).symm⟩
    by_cases hok : bothOk a b = true
    · have hok2 := hsym.1 hok
      obtain ⟨r1, r2⟩ := p2 hok
      obtain ⟨s1, s2⟩ := q2 hok2
      have e : bothX a b = bothX b a := ris_ext r1.ris s1.ris fun c => by rw [r2, s2]; exact Or.comm
      rw [bothE, bothE, bothL, bothL, if_pos hok, if_pos hok2, e]
      refine ⟨rfl, by simp [hok, hok2], fun x hx => ?_⟩
      split at hx
      · rw [← e] at hx; exact ⟨(r1.el x hx).1, may_dle (r1.el x hx).2⟩
      · cases hx
    · have hok2 : ¬ bothOk b a = true := fun h => hok (hsym.2 h)
      rw [bothE, bothE, bothL, bothL, if_neg hok, if_neg hok2, if_neg (fun h => hok h.1), if_neg (fun h => hok2 h.1)]
      exact ⟨rfl, rfl, fun x hx => by cases hx⟩
end Go.Proofs.Ytdecgkhdbfgldaa
