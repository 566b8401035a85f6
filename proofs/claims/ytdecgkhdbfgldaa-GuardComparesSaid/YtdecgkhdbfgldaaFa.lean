/- Walks: package term's words and numbers, and which terms may be. -/
import Derived.Test.YtdecgkhdbfgldaaTw
set_option linter.unusedVariables false
set_option linter.unusedSimpArgs false
set_option maxRecDepth 8000
namespace Go.Proofs.Ytdecgkhdbfgldaa
open Go

abbrev PF (f : FuncId) (args : List AV) (v : AV) : Prop := AC Try.prog f args [] (fun r O => r = v ∧ O = [])
abbrev bv (b : Bool) : AV := .imm (.bool b)
abbrev iv (n : Int) : AV := .imm (.int .i64 n)
abbrev uv (n : Int) : AV := .imm (.int .u8 n)
abbrev sv (s : ByteArray) : AV := .imm (.string s)

def digB (x : Int) : Bool := decide (48 ≤ x ∧ x ≤ 57)
def smallB (x : Int) : Bool := decide (97 ≤ x ∧ x ≤ 122)
def greatB (x : Int) : Bool := decide (65 ≤ x ∧ x ≤ 90)
def innerB (x : Int) : Bool := smallB x || greatB x || digB x || decide (x = 95)
def numB (x : Int) : Bool := decide (-1073741824 ≤ x ∧ x ≤ 1073741824)

theorem digit_ok (x : Int) : PF 151 [uv x] (bv (digB x)) := by
  refine AC_intro Try.func151 rfl Try.ntmps151 (Nat.le_of_ble_eq_true rfl) fun c hL => ?_
  refine awp_seq ?_
  refine awp_region ?_
  refine awps_stp0 rfl rfl (by decide) (stp_move (.inr rfl) rfl) ?_
  refine awps_nil ?_
  refine thenQ_nil ?_
  refine awp_seq ?_
  refine awp_region ?_
  refine awps_stp0 rfl rfl (by decide) (stp_move (.inl rfl) rfl) ?_
  refine awps_stp0 rfl rfl (by decide) (stp_binI rfl rfl rfl rfl) ?_
  refine awps_stp0 rfl rfl (by decide) (stp_move (.inl rfl) rfl) ?_
  refine awps_split 5 rfl (fun g5 => ?_) (fun g5 => ?_)
  · try simp only [↓str_beq_t, ↓str_beq_f, decide_eq_true_eq, decide_eq_false_iff_not, Bool.not_eq_true', Bool.not_eq_false', Int.not_lt, Int.not_le, beq_iff_eq, beq_eq_false_iff_ne, bne_iff_ne, bne_eq_false_iff_eq, ne_eq] at g5
    refine awps_g0 rfl rfl rfl (by decide) rfl (by decide) (stp_move (.inl rfl) rfl) ?_
    refine awps_g0 rfl rfl rfl (by decide) rfl (by decide) (stp_binI rfl rfl rfl rfl) ?_
    refine awps_stp0 rfl rfl (by decide) (stp_pick rfl rfl rfl) ?_
    refine awps_stp0 rfl rfl (by decide) (stp_move (.inr rfl) rfl) ?_
    refine awps_nil ?_
    refine thenQ_nil ?_
    refine awp_ret ?_
    -- leaf g5T
    refine ret0 (noL hL) (.inl rfl) (resAs_tmp rfl (resAs_nil)) ?_ ?_
    · rfl
    refine ⟨bool_w ?_, rfl⟩
    rw [Bool.eq_iff_iff]; simp [digB]; try omega
  try simp only [↓str_beq_t, ↓str_beq_f, decide_eq_true_eq, decide_eq_false_iff_not, Bool.not_eq_true', Bool.not_eq_false', Int.not_lt, Int.not_le, beq_iff_eq, beq_eq_false_iff_ne, bne_iff_ne, bne_eq_false_iff_eq, ne_eq] at g5
  refine awps_gs rfl rfl rfl rfl (by decide) rfl (by decide) ?_
  refine awps_gs rfl rfl rfl rfl (by decide) rfl (by decide) ?_
  refine awps_stp0 rfl rfl (by decide) (stp_pick rfl rfl rfl) ?_
  refine awps_stp0 rfl rfl (by decide) (stp_move (.inr rfl) rfl) ?_
  refine awps_nil ?_
  refine thenQ_nil ?_
  refine awp_ret ?_
  -- leaf g5F
  refine ret0 (noL hL) (.inl rfl) (resAs_tmp rfl (resAs_nil)) ?_ ?_
  · rfl
  refine ⟨bool_w ?_, rfl⟩
  rw [Bool.eq_iff_iff]; simp [digB]; try omega
theorem small_ok (x : Int) : PF 148 [uv x] (bv (smallB x)) := by
  refine AC_intro Try.func148 rfl Try.ntmps148 (Nat.le_of_ble_eq_true rfl) fun c hL => ?_
  refine awp_seq ?_
  refine awp_region ?_
  refine awps_stp0 rfl rfl (by decide) (stp_move (.inr rfl) rfl) ?_
  refine awps_nil ?_
  refine thenQ_nil ?_
  refine awp_seq ?_
  refine awp_region ?_
  refine awps_stp0 rfl rfl (by decide) (stp_move (.inl rfl) rfl) ?_
  refine awps_stp0 rfl rfl (by decide) (stp_binI rfl rfl rfl rfl) ?_
  refine awps_stp0 rfl rfl (by decide) (stp_move (.inl rfl) rfl) ?_
  refine awps_split 5 rfl (fun g5 => ?_) (fun g5 => ?_)
  · try simp only [↓str_beq_t, ↓str_beq_f, decide_eq_true_eq, decide_eq_false_iff_not, Bool.not_eq_true', Bool.not_eq_false', Int.not_lt, Int.not_le, beq_iff_eq, beq_eq_false_iff_ne, bne_iff_ne, bne_eq_false_iff_eq, ne_eq] at g5
    refine awps_g0 rfl rfl rfl (by decide) rfl (by decide) (stp_move (.inl rfl) rfl) ?_
    refine awps_g0 rfl rfl rfl (by decide) rfl (by decide) (stp_binI rfl rfl rfl rfl) ?_
    refine awps_stp0 rfl rfl (by decide) (stp_pick rfl rfl rfl) ?_
    refine awps_stp0 rfl rfl (by decide) (stp_move (.inr rfl) rfl) ?_
    refine awps_nil ?_
    refine thenQ_nil ?_
    refine awp_ret ?_
    -- leaf g5T
    refine ret0 (noL hL) (.inl rfl) (resAs_tmp rfl (resAs_nil)) ?_ ?_
    · rfl
    refine ⟨bool_w ?_, rfl⟩
    rw [Bool.eq_iff_iff]; simp [smallB]; try omega
  try simp only [↓str_beq_t, ↓str_beq_f, decide_eq_true_eq, decide_eq_false_iff_not, Bool.not_eq_true', Bool.not_eq_false', Int.not_lt, Int.not_le, beq_iff_eq, beq_eq_false_iff_ne, bne_iff_ne, bne_eq_false_iff_eq, ne_eq] at g5
  refine awps_gs rfl rfl rfl rfl (by decide) rfl (by decide) ?_
  refine awps_gs rfl rfl rfl rfl (by decide) rfl (by decide) ?_
  refine awps_stp0 rfl rfl (by decide) (stp_pick rfl rfl rfl) ?_
  refine awps_stp0 rfl rfl (by decide) (stp_move (.inr rfl) rfl) ?_
  refine awps_nil ?_
  refine thenQ_nil ?_
  refine awp_ret ?_
  -- leaf g5F
  refine ret0 (noL hL) (.inl rfl) (resAs_tmp rfl (resAs_nil)) ?_ ?_
  · rfl
  refine ⟨bool_w ?_, rfl⟩
  rw [Bool.eq_iff_iff]; simp [smallB]; try omega
theorem great_ok (x : Int) : PF 104 [uv x] (bv (greatB x)) := by
  refine AC_intro Try.func104 rfl Try.ntmps104 (Nat.le_of_ble_eq_true rfl) fun c hL => ?_
  refine awp_seq ?_
  refine awp_region ?_
  refine awps_stp0 rfl rfl (by decide) (stp_move (.inr rfl) rfl) ?_
  refine awps_nil ?_
  refine thenQ_nil ?_
  refine awp_seq ?_
  refine awp_region ?_
  refine awps_stp0 rfl rfl (by decide) (stp_move (.inl rfl) rfl) ?_
  refine awps_stp0 rfl rfl (by decide) (stp_binI rfl rfl rfl rfl) ?_
  refine awps_stp0 rfl rfl (by decide) (stp_move (.inl rfl) rfl) ?_
  refine awps_split 5 rfl (fun g5 => ?_) (fun g5 => ?_)
  · try simp only [↓str_beq_t, ↓str_beq_f, decide_eq_true_eq, decide_eq_false_iff_not, Bool.not_eq_true', Bool.not_eq_false', Int.not_lt, Int.not_le, beq_iff_eq, beq_eq_false_iff_ne, bne_iff_ne, bne_eq_false_iff_eq, ne_eq] at g5
    refine awps_g0 rfl rfl rfl (by decide) rfl (by decide) (stp_move (.inl rfl) rfl) ?_
    refine awps_g0 rfl rfl rfl (by decide) rfl (by decide) (stp_binI rfl rfl rfl rfl) ?_
    refine awps_stp0 rfl rfl (by decide) (stp_pick rfl rfl rfl) ?_
    refine awps_stp0 rfl rfl (by decide) (stp_move (.inr rfl) rfl) ?_
    refine awps_nil ?_
    refine thenQ_nil ?_
    refine awp_ret ?_
    -- leaf g5T
    refine ret0 (noL hL) (.inl rfl) (resAs_tmp rfl (resAs_nil)) ?_ ?_
    · rfl
    refine ⟨bool_w ?_, rfl⟩
    rw [Bool.eq_iff_iff]; simp [greatB]; try omega
  try simp only [↓str_beq_t, ↓str_beq_f, decide_eq_true_eq, decide_eq_false_iff_not, Bool.not_eq_true', Bool.not_eq_false', Int.not_lt, Int.not_le, beq_iff_eq, beq_eq_false_iff_ne, bne_iff_ne, bne_eq_false_iff_eq, ne_eq] at g5
  refine awps_gs rfl rfl rfl rfl (by decide) rfl (by decide) ?_
  refine awps_gs rfl rfl rfl rfl (by decide) rfl (by decide) ?_
  refine awps_stp0 rfl rfl (by decide) (stp_pick rfl rfl rfl) ?_
  refine awps_stp0 rfl rfl (by decide) (stp_move (.inr rfl) rfl) ?_
  refine awps_nil ?_
  refine thenQ_nil ?_
  refine awp_ret ?_
  -- leaf g5F
  refine ret0 (noL hL) (.inl rfl) (resAs_tmp rfl (resAs_nil)) ?_ ?_
  · rfl
  refine ⟨bool_w ?_, rfl⟩
  rw [Bool.eq_iff_iff]; simp [greatB]; try omega
theorem Number_ok (x : Int) : PF 121 [iv x] (bv (numB x)) := by
  refine AC_intro Try.func121 rfl Try.ntmps121 (Nat.le_of_ble_eq_true rfl) fun c hL => ?_
  refine awp_seq ?_
  refine awp_region ?_
  refine awps_stp0 rfl rfl (by decide) (stp_move (.inr rfl) rfl) ?_
  refine awps_nil ?_
  refine thenQ_nil ?_
  refine awp_seq ?_
  refine awp_region ?_
  refine awps_stp0 rfl rfl (by decide) (stp_move (.inl rfl) rfl) ?_
  refine awps_stp0 rfl rfl (by decide) (stp_binI rfl rfl rfl rfl) ?_
  refine awps_stp0 rfl rfl (by decide) (stp_move (.inl rfl) rfl) ?_
  refine awps_split 5 rfl (fun g5 => ?_) (fun g5 => ?_)
  · try simp only [↓str_beq_t, ↓str_beq_f, decide_eq_true_eq, decide_eq_false_iff_not, Bool.not_eq_true', Bool.not_eq_false', Int.not_lt, Int.not_le, beq_iff_eq, beq_eq_false_iff_ne, bne_iff_ne, bne_eq_false_iff_eq, ne_eq] at g5
    refine awps_g0 rfl rfl rfl (by decide) rfl (by decide) (stp_move (.inl rfl) rfl) ?_
    refine awps_g0 rfl rfl rfl (by decide) rfl (by decide) (stp_binI rfl rfl rfl rfl) ?_
    refine awps_stp0 rfl rfl (by decide) (stp_pick rfl rfl rfl) ?_
    refine awps_stp0 rfl rfl (by decide) (stp_move (.inr rfl) rfl) ?_
    refine awps_nil ?_
    refine thenQ_nil ?_
    refine awp_ret ?_
    -- leaf g5T
    refine ret0 (noL hL) (.inl rfl) (resAs_tmp rfl (resAs_nil)) ?_ ?_
    · rfl
    refine ⟨bool_w ?_, rfl⟩
    rw [Bool.eq_iff_iff]; simp [numB]; try omega
  try simp only [↓str_beq_t, ↓str_beq_f, decide_eq_true_eq, decide_eq_false_iff_not, Bool.not_eq_true', Bool.not_eq_false', Int.not_lt, Int.not_le, beq_iff_eq, beq_eq_false_iff_ne, bne_iff_ne, bne_eq_false_iff_eq, ne_eq] at g5
  refine awps_gs rfl rfl rfl rfl (by decide) rfl (by decide) ?_
  refine awps_gs rfl rfl rfl rfl (by decide) rfl (by decide) ?_
  refine awps_stp0 rfl rfl (by decide) (stp_pick rfl rfl rfl) ?_
  refine awps_stp0 rfl rfl (by decide) (stp_move (.inr rfl) rfl) ?_
  refine awps_nil ?_
  refine thenQ_nil ?_
  refine awp_ret ?_
  -- leaf g5F
  refine ret0 (noL hL) (.inl rfl) (resAs_tmp rfl (resAs_nil)) ?_ ?_
  · rfl
  refine ⟨bool_w ?_, rfl⟩
  rw [Bool.eq_iff_iff]; simp [numB]; try omega
theorem Inner_ok (x : Int) : PF 130 [uv x] (bv (innerB x)) := by
  refine AC_intro Try.func130 rfl Try.ntmps130 (Nat.le_of_ble_eq_true rfl) fun c hL => ?_
  refine awp_seq ?_
  refine awp_region ?_
  refine awps_stp0 rfl rfl (by decide) (stp_move (.inr rfl) rfl) ?_
  refine awps_nil ?_
  refine thenQ_nil ?_
  refine awp_seq ?_
  refine awp_region ?_
  refine awps_stp0 rfl rfl (by decide) (stp_move (.inl rfl) rfl) ?_
  refine awps_call (avs := [_]) true rfl rfl rfl (by decide) en_term_small rfl rfl (small_ok _) rfl rfl ?_
  refine awps_stp0 rfl rfl (by decide) (stp_move (.inl rfl) rfl) ?_
  refine awps_split 5 rfl (fun g5 => ?_) (fun g5 => ?_)
  · try simp only [↓str_beq_t, ↓str_beq_f, decide_eq_true_eq, decide_eq_false_iff_not, Bool.not_eq_true', Bool.not_eq_false', Int.not_lt, Int.not_le, beq_iff_eq, beq_eq_false_iff_ne, bne_iff_ne, bne_eq_false_iff_eq, ne_eq] at g5
    refine awps_gs rfl rfl rfl rfl (by decide) rfl (by decide) ?_
    refine awps_gs rfl rfl rfl rfl (by decide) rfl (by decide) ?_
    refine awps_stp0 rfl rfl (by decide) (stp_pick rfl rfl rfl) ?_
    refine awps_stp0 rfl rfl (by decide) (stp_move (.inl rfl) rfl) ?_
    refine awps_gs rfl rfl rfl rfl (by decide) rfl (by decide) ?_
    refine awps_gs rfl rfl rfl rfl (by decide) rfl (by decide) ?_
    refine awps_stp0 rfl rfl (by decide) (stp_pick rfl rfl rfl) ?_
    refine awps_stp0 rfl rfl (by decide) (stp_move (.inl rfl) rfl) ?_
    refine awps_gs rfl rfl rfl rfl (by decide) rfl (by decide) ?_
    refine awps_gs rfl rfl rfl rfl (by decide) rfl (by decide) ?_
    refine awps_stp0 rfl rfl (by decide) (stp_pick rfl rfl rfl) ?_
    refine awps_stp0 rfl rfl (by decide) (stp_move (.inr rfl) rfl) ?_
    refine awps_nil ?_
    refine thenQ_nil ?_
    refine awp_ret ?_
    -- leaf g5T
    refine ret0 (noL hL) (.inl rfl) (resAs_tmp rfl (resAs_nil)) ?_ ?_
    · rfl
    refine ⟨bool_w ?_, rfl⟩
    simp_all [innerB]; try rfl
  try simp only [↓str_beq_t, ↓str_beq_f, decide_eq_true_eq, decide_eq_false_iff_not, Bool.not_eq_true', Bool.not_eq_false', Int.not_lt, Int.not_le, beq_iff_eq, beq_eq_false_iff_ne, bne_iff_ne, bne_eq_false_iff_eq, ne_eq] at g5
  refine awps_g0 rfl rfl rfl (by decide) rfl (by decide) (stp_move (.inl rfl) rfl) ?_
  refine awps_g0 rfl rfl rfl (by decide) rfl (by decide) (stp_call (avs := [_]) true rfl en_term_great rfl rfl (great_ok _) (fun _ => rfl) rfl) ?_
  refine awps_stp0 rfl rfl (by decide) (stp_pick rfl rfl rfl) ?_
  refine awps_stp0 rfl rfl (by decide) (stp_move (.inl rfl) rfl) ?_
  refine awps_split 9 rfl (fun g9 => ?_) (fun g9 => ?_)
  · try simp only [↓str_beq_t, ↓str_beq_f, decide_eq_true_eq, decide_eq_false_iff_not, Bool.not_eq_true', Bool.not_eq_false', Int.not_lt, Int.not_le, beq_iff_eq, beq_eq_false_iff_ne, bne_iff_ne, bne_eq_false_iff_eq, ne_eq] at g9
    refine awps_gs rfl rfl rfl rfl (by decide) rfl (by decide) ?_
    refine awps_gs rfl rfl rfl rfl (by decide) rfl (by decide) ?_
    refine awps_stp0 rfl rfl (by decide) (stp_pick rfl rfl rfl) ?_
    refine awps_stp0 rfl rfl (by decide) (stp_move (.inl rfl) rfl) ?_
    refine awps_gs rfl rfl rfl rfl (by decide) rfl (by decide) ?_
    refine awps_gs rfl rfl rfl rfl (by decide) rfl (by decide) ?_
    refine awps_stp0 rfl rfl (by decide) (stp_pick rfl rfl rfl) ?_
    refine awps_stp0 rfl rfl (by decide) (stp_move (.inr rfl) rfl) ?_
    refine awps_nil ?_
    refine thenQ_nil ?_
    refine awp_ret ?_
    -- leaf g5Fg9T
    refine ret0 (noL hL) (.inl rfl) (resAs_tmp rfl (resAs_nil)) ?_ ?_
    · rfl
    refine ⟨bool_w ?_, rfl⟩
    simp_all [innerB]; try rfl
  try simp only [↓str_beq_t, ↓str_beq_f, decide_eq_true_eq, decide_eq_false_iff_not, Bool.not_eq_true', Bool.not_eq_false', Int.not_lt, Int.not_le, beq_iff_eq, beq_eq_false_iff_ne, bne_iff_ne, bne_eq_false_iff_eq, ne_eq] at g9
  refine awps_g0 rfl rfl rfl (by decide) rfl (by decide) (stp_move (.inl rfl) rfl) ?_
  refine awps_g0 rfl rfl rfl (by decide) rfl (by decide) (stp_call (avs := [_]) true rfl en_term_digit rfl rfl (digit_ok _) (fun _ => rfl) rfl) ?_
  refine awps_stp0 rfl rfl (by decide) (stp_pick rfl rfl rfl) ?_
  refine awps_stp0 rfl rfl (by decide) (stp_move (.inl rfl) rfl) ?_
  refine awps_split 13 rfl (fun g13 => ?_) (fun g13 => ?_)
  · try simp only [↓str_beq_t, ↓str_beq_f, decide_eq_true_eq, decide_eq_false_iff_not, Bool.not_eq_true', Bool.not_eq_false', Int.not_lt, Int.not_le, beq_iff_eq, beq_eq_false_iff_ne, bne_iff_ne, bne_eq_false_iff_eq, ne_eq] at g13
    refine awps_gs rfl rfl rfl rfl (by decide) rfl (by decide) ?_
    refine awps_gs rfl rfl rfl rfl (by decide) rfl (by decide) ?_
    refine awps_stp0 rfl rfl (by decide) (stp_pick rfl rfl rfl) ?_
    refine awps_stp0 rfl rfl (by decide) (stp_move (.inr rfl) rfl) ?_
    refine awps_nil ?_
    refine thenQ_nil ?_
    refine awp_ret ?_
    -- leaf g5Fg9Fg13T
    refine ret0 (noL hL) (.inl rfl) (resAs_tmp rfl (resAs_nil)) ?_ ?_
    · rfl
    refine ⟨bool_w ?_, rfl⟩
    simp_all [innerB]; try rfl
  try simp only [↓str_beq_t, ↓str_beq_f, decide_eq_true_eq, decide_eq_false_iff_not, Bool.not_eq_true', Bool.not_eq_false', Int.not_lt, Int.not_le, beq_iff_eq, beq_eq_false_iff_ne, bne_iff_ne, bne_eq_false_iff_eq, ne_eq] at g13
  refine awps_g0 rfl rfl rfl (by decide) rfl (by decide) (stp_move (.inl rfl) rfl) ?_
  refine awps_g0 rfl rfl rfl (by decide) rfl (by decide) (stp_binI rfl rfl rfl rfl) ?_
  refine awps_stp0 rfl rfl (by decide) (stp_pick rfl rfl rfl) ?_
  refine awps_stp0 rfl rfl (by decide) (stp_move (.inr rfl) rfl) ?_
  refine awps_nil ?_
  refine thenQ_nil ?_
  refine awp_ret ?_
  -- leaf g5Fg9Fg13F
  refine ret0 (noL hL) (.inl rfl) (resAs_tmp rfl (resAs_nil)) ?_ ?_
  · rfl
  refine ⟨bool_w ?_, rfl⟩
  simp_all [innerB]; try rfl

def wordB (p : Int → Bool) (s : ByteArray) : Bool := decide (s.size ≠ 0) && decide (s.size ≤ 16) && p (byteAt s 0) && (List.range s.size).all (fun i => innerB (byteAt s i))
def nameB (s : ByteArray) : Bool := wordB smallB s
def varB (s : ByteArray) : Bool := wordB greatB s

theorem word_ok (s : ByteArray) (p : Int → Bool) (g : FuncId) (hen : Enters Try.prog g) (hg : ∀ x, PF g [uv x] (bv (p x))) : PF 103 [sv s, .fn g []] (bv (wordB p s)) := by
  refine AC_intro Try.func103 rfl Try.ntmps103 (Nat.le_of_ble_eq_true rfl) fun c hL => ?_
  refine awp_seq ?_
  refine awp_region ?_
  refine awps_stp0 rfl rfl (by decide) (stp_move (.inr rfl) rfl) ?_
  refine awps_nil ?_
  refine thenQ_nil ?_
  refine awp_seq ?_
  refine awp_seq ?_
  refine awp_region ?_
  refine awps_stp0 rfl rfl (by decide) (stp_move (.inl rfl) rfl) ?_
  refine awps_stp0 rfl rfl (by decide) (stp_binS rfl rfl rfl rfl) ?_
  refine awps_stp0 rfl rfl (by decide) (stp_move (.inl rfl) rfl) ?_
  refine awps_split 8 rfl (fun g8 => ?_) (fun g8 => ?_)
  · try simp only [↓str_beq_t, ↓str_beq_f, decide_eq_true_eq, decide_eq_false_iff_not, Bool.not_eq_true', Bool.not_eq_false', Int.not_lt, Int.not_le, beq_iff_eq, beq_eq_false_iff_ne, bne_iff_ne, bne_eq_false_iff_eq, ne_eq] at g8
    refine awps_gs rfl rfl rfl rfl (by decide) rfl (by decide) ?_
    refine awps_gs rfl rfl rfl rfl (by decide) rfl (by decide) ?_
    refine awps_gs rfl rfl rfl rfl (by decide) rfl (by decide) ?_
    refine awps_stp0 rfl rfl (by decide) (stp_pick rfl rfl rfl) ?_
    refine awps_stp0 rfl rfl (by decide) (stp_move (.inl rfl) rfl) ?_
    refine awps_gs rfl rfl rfl rfl (by decide) rfl (by decide) ?_
    refine awps_gs rfl rfl rfl rfl (by decide) rfl (by decide) ?_
    refine awps_gs rfl rfl rfl rfl (by decide) rfl (by decide) ?_
    refine awps_gs rfl rfl rfl rfl (by decide) rfl (by decide) ?_
    refine awps_gs rfl rfl rfl rfl (by decide) rfl (by decide) ?_
    refine awps_stp0 rfl rfl (by decide) (stp_pick rfl rfl rfl) ?_
    refine awps_nil ?_
    refine thenQ_nil ?_
    refine awp_condT rfl ?_
    refine awp_seq ?_
    refine awp_region ?_
    refine awps_stp0 rfl rfl (by decide) (stp_move (.inr rfl) rfl) ?_
    refine awps_nil ?_
    refine thenQ_nil ?_
    refine awp_ret ?_
    refine thenQ_ret (?_)
    -- leaf g8T
    refine ret0 (noL hL) (.inl rfl) (resAs_tmp rfl (resAs_nil)) ?_ ?_
    · rfl
    refine ⟨bool_w ?_, rfl⟩
    simp [wordB, size_zero.2 g8]
  try simp only [↓str_beq_t, ↓str_beq_f, decide_eq_true_eq, decide_eq_false_iff_not, Bool.not_eq_true', Bool.not_eq_false', Int.not_lt, Int.not_le, beq_iff_eq, beq_eq_false_iff_ne, bne_iff_ne, bne_eq_false_iff_eq, ne_eq] at g8
  have h0 : s.size ≠ 0 := mt size_zero.1 g8
  refine awps_g0 rfl rfl rfl (by decide) rfl (by decide) (stp_move (.inl rfl) rfl) ?_
  refine awps_g0 rfl rfl rfl (by decide) rfl (by decide) (stp_len_str rfl ul_string rfl) ?_
  refine awps_g0 rfl rfl rfl (by decide) rfl (by decide) (stp_binI rfl rfl rfl rfl) ?_
  refine awps_stp0 rfl rfl (by decide) (stp_pick rfl rfl rfl) ?_
  refine awps_stp0 rfl rfl (by decide) (stp_move (.inl rfl) rfl) ?_
  refine awps_split 13 rfl (fun g13 => ?_) (fun g13 => ?_)
  · try simp only [↓str_beq_t, ↓str_beq_f, decide_eq_true_eq, decide_eq_false_iff_not, Bool.not_eq_true', Bool.not_eq_false', Int.not_lt, Int.not_le, beq_iff_eq, beq_eq_false_iff_ne, bne_iff_ne, bne_eq_false_iff_eq, ne_eq] at g13
    refine awps_gs rfl rfl rfl rfl (by decide) rfl (by decide) ?_
    refine awps_gs rfl rfl rfl rfl (by decide) rfl (by decide) ?_
    refine awps_gs rfl rfl rfl rfl (by decide) rfl (by decide) ?_
    refine awps_gs rfl rfl rfl rfl (by decide) rfl (by decide) ?_
    refine awps_gs rfl rfl rfl rfl (by decide) rfl (by decide) ?_
    refine awps_stp0 rfl rfl (by decide) (stp_pick rfl rfl rfl) ?_
    refine awps_nil ?_
    refine thenQ_nil ?_
    refine awp_condT rfl ?_
    refine awp_seq ?_
    refine awp_region ?_
    refine awps_stp0 rfl rfl (by decide) (stp_move (.inr rfl) rfl) ?_
    refine awps_nil ?_
    refine thenQ_nil ?_
    refine awp_ret ?_
    refine thenQ_ret (?_)
    -- leaf g8Fg13T
    refine ret0 (noL hL) (.inl rfl) (resAs_tmp rfl (resAs_nil)) ?_ ?_
    · rfl
    refine ⟨bool_w ?_, rfl⟩
    simp [wordB]; omega
  try simp only [↓str_beq_t, ↓str_beq_f, decide_eq_true_eq, decide_eq_false_iff_not, Bool.not_eq_true', Bool.not_eq_false', Int.not_lt, Int.not_le, beq_iff_eq, beq_eq_false_iff_ne, bne_iff_ne, bne_eq_false_iff_eq, ne_eq] at g13
  refine awps_g0 rfl rfl rfl (by decide) rfl (by decide) (stp_move (.inl rfl) rfl) ?_
  refine awps_g0 rfl rfl rfl (by decide) rfl (by decide) (stp_move (.inl rfl) rfl) ?_
  refine awps_g0 rfl rfl rfl (by decide) rfl (by decide) (stp_index_str rfl ul_string rfl rfl (by decide) (by omega)) ?_
  refine awps_g0 rfl rfl rfl (by decide) rfl (by decide) (stp_call (avs := [_]) true rfl hen rfl rfl (hg _) (fun _ => rfl) rfl) ?_
  refine awps_g0 rfl rfl rfl (by decide) rfl (by decide) (stp_not rfl rfl) ?_
  refine awps_stp0 rfl rfl (by decide) (stp_pick rfl rfl rfl) ?_
  refine awps_nil ?_
  refine thenQ_nil ?_
  refine awp_cond rfl (fun c0 => ?_) (fun c0 => ?_)
  · try simp only [↓str_beq_t, ↓str_beq_f, decide_eq_true_eq, decide_eq_false_iff_not, Bool.not_eq_true', Bool.not_eq_false', Int.not_lt, Int.not_le, beq_iff_eq, beq_eq_false_iff_ne, bne_iff_ne, bne_eq_false_iff_eq, ne_eq] at c0
    refine awp_seq ?_
    refine awp_region ?_
    refine awps_stp0 rfl rfl (by decide) (stp_move (.inr rfl) rfl) ?_
    refine awps_nil ?_
    refine thenQ_nil ?_
    refine awp_ret ?_
    refine thenQ_ret (?_)
    -- leaf g8Fg13F0T
    refine ret0 (noL hL) (.inl rfl) (resAs_tmp rfl (resAs_nil)) ?_ ?_
    · rfl
    refine ⟨bool_w ?_, rfl⟩
    simp [wordB, c0]
  try simp only [↓str_beq_t, ↓str_beq_f, decide_eq_true_eq, decide_eq_false_iff_not, Bool.not_eq_true', Bool.not_eq_false', Int.not_lt, Int.not_le, beq_iff_eq, beq_eq_false_iff_ne, bne_iff_ne, bne_eq_false_iff_eq, ne_eq] at c0
  refine awp_skip ?_
  refine thenQ_nil ?_
  refine awp_seq ?_
  refine awp_seq ?_
  refine awp_region ?_
  refine awps_stp0 rfl rfl (by decide) (stp_move (.inl rfl) rfl) ?_
  refine awps_stp0 rfl rfl (by decide) (stp_len_str rfl ul_string rfl) ?_
  refine awps_stp0 rfl rfl (by decide) (stp_move (.inl rfl) rfl) ?_
  refine awps_nil ?_
  refine thenQ_nil ?_
  refine awp_block ?_
  refine awp_while (s.size) (fun k => k ≤ s.size ∧ ∀ j, j < k → innerB (byteAt s j) = true) (fun k => ⟨[(0, .imm (.string s)), (21, iv s.size), (22, iv (k : Int))], []⟩) (⟨by omega, fun j hj => absurd hj (by omega)⟩) ?_ (fun k hk hp => ?_)
  · exact sub_re (SubT.cons (lk_eq rfl (by first | rfl | simp)) (SubT.cons (lk_eq rfl (by first | rfl | simp)) (SubT.cons (lk_eq rfl (by first | rfl | simp)) (SubT.nil)))) (SubO.nil) rfl rfl (noL' (noL hL) _)
  refine awp_seq ?_
  refine awp_region ?_
  refine awps_stp0 rfl rfl (by decide) (stp_binI rfl rfl rfl rfl) ?_
  refine awps_nil ?_
  refine thenQ_nil ?_
  refine awp_seq ?_
  refine awp_cond rfl (fun c1 => ?_) (fun c1 => ?_)
  · try simp only [↓str_beq_t, ↓str_beq_f, decide_eq_true_eq, decide_eq_false_iff_not, Bool.not_eq_true', Bool.not_eq_false', Int.not_lt, Int.not_le, beq_iff_eq, beq_eq_false_iff_ne, bne_iff_ne, bne_eq_false_iff_eq, ne_eq] at c1
    refine awp_skip ?_
    refine thenQ_nil ?_
    refine awp_seq ?_
    refine awp_block ?_
    refine awp_seq ?_
    refine awp_region ?_
    refine awps_stp0 rfl rfl (by decide) (stp_move (.inl rfl) rfl) ?_
    refine awps_stp0 rfl rfl (by decide) (stp_move (.inr rfl) rfl) ?_
    refine awps_nil ?_
    refine thenQ_nil ?_
    refine awp_seq ?_
    refine awp_region ?_
    refine awps_stp0 rfl rfl (by decide) (stp_move (.inl rfl) rfl) ?_
    refine awps_stp0 rfl rfl (by decide) (stp_move (.inl rfl) rfl) ?_
    refine awps_stp0 rfl rfl (by decide) (stp_index_str rfl ul_string rfl rfl (by omega) (by omega)) ?_
    refine awps_call (avs := [_]) true rfl rfl rfl (by decide) en_term_Inner rfl rfl (Inner_ok _) rfl rfl ?_
    refine awps_stp0 rfl rfl (by decide) (stp_not rfl rfl) ?_
    refine awps_nil ?_
    refine thenQ_nil ?_
    refine awp_cond rfl (fun c2 => ?_) (fun c2 => ?_)
    · try simp only [↓str_beq_t, ↓str_beq_f, decide_eq_true_eq, decide_eq_false_iff_not, Bool.not_eq_true', Bool.not_eq_false', Int.not_lt, Int.not_le, beq_iff_eq, beq_eq_false_iff_ne, bne_iff_ne, bne_eq_false_iff_eq, ne_eq] at c2
      refine awp_seq ?_
      refine awp_region ?_
      refine awps_stp0 rfl rfl (by decide) (stp_move (.inr rfl) rfl) ?_
      refine awps_nil ?_
      refine thenQ_nil ?_
      refine awp_ret ?_
      refine inQ_ret (thenQ_ret (thenQ_ret (inQ_ret (thenQ_ret (?_)))))
      -- leaf g8Fg13F0F1T2T
      refine ret0 (noL hL) (.inl rfl) (resAs_tmp rfl (resAs_nil)) ?_ ?_
      · rfl
      refine ⟨bool_w ?_, rfl⟩
      symm; simp only [wordB, Bool.and_eq_false_iff]; right
      rw [List.all_eq_false]; exact ⟨k, by simp; omega, by simp [c2]⟩
    try simp only [↓str_beq_t, ↓str_beq_f, decide_eq_true_eq, decide_eq_false_iff_not, Bool.not_eq_true', Bool.not_eq_false', Int.not_lt, Int.not_le, beq_iff_eq, beq_eq_false_iff_ne, bne_iff_ne, bne_eq_false_iff_eq, ne_eq] at c2
    refine awp_skip ?_
    refine inQ_nil ?_
    refine thenQ_nil ?_
    refine awp_region ?_
    refine awps_stp0 rfl rfl (by decide) (stp_add rfl rfl rfl (by omega)) ?_
    refine awps_stp0 rfl rfl (by decide) (stp_move (.inl rfl) rfl) ?_
    refine awps_nil ?_
    refine thenQ_nil ?_
    refine ⟨?_, ?_, ?_⟩
    · skip
      omega
    · skip
      refine ⟨by omega, fun j hj => ?_⟩
      by_cases hjk : j < k
      · exact hp.2 j hjk
      · rw [show j = k by omega]; exact c2
    exact sub_re (SubT.cons (lk_eq rfl (by first | rfl | simp)) (SubT.cons (lk_eq rfl (by first | rfl | simp)) (SubT.cons (lk_eq rfl (by first | rfl | simp)) (SubT.nil)))) (SubO.nil) rfl rfl (noL' (noL hL) _)
  try simp only [↓str_beq_t, ↓str_beq_f, decide_eq_true_eq, decide_eq_false_iff_not, Bool.not_eq_true', Bool.not_eq_false', Int.not_lt, Int.not_le, beq_iff_eq, beq_eq_false_iff_ne, bne_iff_ne, bne_eq_false_iff_eq, ne_eq] at c1
  refine awp_exit ?_
  refine thenQ_exit (thenQ_exit (inQ_hit ?_))
  refine thenQ_nil ?_
  refine awp_seq ?_
  refine awp_region ?_
  refine awps_stp0 rfl rfl (by decide) (stp_move (.inr rfl) rfl) ?_
  refine awps_nil ?_
  refine thenQ_nil ?_
  refine awp_ret ?_
  -- leaf g8Fg13F0F1F
  refine ret0 (noL hL) (.inl rfl) (resAs_tmp rfl (resAs_nil)) ?_ ?_
  · rfl
  refine ⟨bool_w ?_, rfl⟩
  symm; simp only [wordB, Bool.and_eq_true, decide_eq_true_eq, List.all_eq_true, List.mem_range]
  exact ⟨⟨⟨h0, by omega⟩, c0⟩, fun j hj => hp.2 j (by omega)⟩
theorem Name_ok (s : ByteArray) : PF 123 [sv s] (bv (nameB s)) := by
  refine AC_intro Try.func123 rfl Try.ntmps123 (Nat.le_of_ble_eq_true rfl) fun c hL => ?_
  refine awp_seq ?_
  refine awp_region ?_
  refine awps_stp0 rfl rfl (by decide) (stp_move (.inr rfl) rfl) ?_
  refine awps_nil ?_
  refine thenQ_nil ?_
  refine awp_seq ?_
  refine awp_region ?_
  refine awps_stp0 rfl rfl (by decide) (stp_move (.inl rfl) rfl) ?_
  refine awps_call (avs := [_, _]) true rfl rfl rfl (by decide) en_term_word rfl rfl (word_ok s smallB _ en_term_small small_ok) rfl rfl ?_
  refine awps_stp0 rfl rfl (by decide) (stp_move (.inr rfl) rfl) ?_
  refine awps_nil ?_
  refine thenQ_nil ?_
  refine awp_ret ?_
  -- leaf 
  refine ret0 (noL hL) (.inl rfl) (resAs_tmp rfl (resAs_nil)) ?_ ?_
  · rfl
  exact ⟨rfl, rfl⟩
theorem Var_ok (s : ByteArray) : PF 69 [sv s] (bv (varB s)) := by
  refine AC_intro Try.func69 rfl Try.ntmps69 (Nat.le_of_ble_eq_true rfl) fun c hL => ?_
  refine awp_seq ?_
  refine awp_region ?_
  refine awps_stp0 rfl rfl (by decide) (stp_move (.inr rfl) rfl) ?_
  refine awps_nil ?_
  refine thenQ_nil ?_
  refine awp_seq ?_
  refine awp_region ?_
  refine awps_stp0 rfl rfl (by decide) (stp_move (.inl rfl) rfl) ?_
  refine awps_call (avs := [_, _]) true rfl rfl rfl (by decide) en_term_word rfl rfl (word_ok s greatB _ en_term_great great_ok) rfl rfl ?_
  refine awps_stp0 rfl rfl (by decide) (stp_move (.inr rfl) rfl) ?_
  refine awps_nil ?_
  refine thenQ_nil ?_
  refine awp_ret ?_
  -- leaf 
  refine ret0 (noL hL) (.inl rfl) (resAs_tmp rfl (resAs_nil)) ?_ ?_
  · rfl
  exact ⟨rfl, rfl⟩
end Go.Proofs.Ytdecgkhdbfgldaa
