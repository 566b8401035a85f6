/- Part 10 of the proof: Gw, Gx, Gy, Gz, Rdc. -/
import Derived.Test.YtdecgkhdbfgldaaF9
import Derived.Laws.StructEq
set_option linter.unusedVariables false
set_option linter.unusedSimpArgs false
set_option maxRecDepth 8000
namespace Go.Proofs.Ytdecgkhdbfgldaa
open Go
abbrev sa : ByteArray := ⟨#[97]⟩
def f0 : Ft := ⟨nmT sa [], 1, 2⟩
theorem f0_wf : f0.wf := ⟨nmT_w _ _ (by decide) (by decide) (fun t ht => by cases ht), by simp [i64, f0], by simp [i64, f0]⟩
def l0 : List Kp := [⟨7, f0⟩]
theorem l0_wf : ∀ k ∈ l0, k.wf := fun k hk => by
  simp only [l0, List.mem_cons, List.not_mem_nil, or_false] at hk
  subst hk; exact ⟨by simp [i64], f0_wf⟩
theorem wakes9_ok : PF 25 [] (bv true) := by
  have k1 : PF 42 [.imm (.slice none 0 0), iv 7, ftA f0] (.tup [.dat true 7 (kpDs l0), iv 0]) := by
    have h := AC_le (.cons .nil (.cons .refl (.cons .refl .nil))) (Add_ok [] (fun k hk => by cases hk) 7 (by simp [i64]) f0 f0_wf)
    rw [show addL [] 7 f0 = l0 by kernel_rfl, show addE [] 7 f0 = 0 by kernel_rfl] at h
    exact h
  have k2 := Find_ok l0 l0_wf f0 f0_wf
  rw [show findN l0 f0 = 7 by kernel_rfl, show findE l0 f0 = 0 by kernel_rfl] at k2
  refine AC_intro Try.func25 rfl Try.ntmps25 (Nat.le_of_ble_eq_true rfl) fun c hL hQ hDD => ?_
  refine awp_seq ?_
  refine awp_region ?_
  refine awps_stp0 rfl rfl (by decide) (stp_move (.inr rfl) rfl) ?_
  refine awps_nil ?_
  refine thenQ_nil ?_
  refine awp_seq ?_
  refine awp_region ?_
  refine awps_stp0 rfl rfl (by decide) (stp_build rfl zv_api_Term rfl pl_api_Term rfl rfl) ?_
  refine awps_stp0 rfl rfl (by decide) (stp_build rfl zv_api_Span rfl pl_api_Span rfl rfl) ?_
  refine awps_sub (sub_le 6 rfl (.agg (ds := lift false (tmD (nmT sa []))) (.cons .refl (.cons .refl (.cons .refl (.cons .nil .nil)))))) ?_
  refine awps_stp0 rfl rfl (by decide) (stp_build rfl zv_api_Fact rfl pl_api_Fact rfl rfl) ?_
  refine awps_stp1 rfl rfl (by decide) (stp_alloc 1 rfl zv_api_Fact rfl) rfl ?_
  refine awps_store rfl rfl rfl tf_api_Fact rfl rfl rfl rfl rfl rfl rfl rfl rfl ?_
  refine awps_nil ?_
  refine thenQ_nil ?_
  refine awp_seq ?_
  refine awp_region ?_
  first | refine awps_stp0 rfl rfl (by decide) (stp_load_all rfl tf_api_Fact rfl rfl rfl rfl) ?_ | refine awps_stp0 rfl rfl (by decide) (stp_load rfl tf_api_Fact rfl rfl rfl rfl rfl) ?_ | refine awps_stp0 rfl rfl (by decide) (stp_load_elpa rfl tf_api_Fact rfl rfl) ?_ | refine awps_stp0 rfl rfl (by decide) (stp_load_elpn rfl tf_api_Fact rfl rfl rfl) ?_
  refine awps_call (avs := [_, _, _]) true rfl rfl rfl (by decide) en_facts_Add rfl rfl (k1) rfl rfl ?_
  refine awps_stp0 rfl rfl (by decide) (stp_move (.inl rfl) rfl) ?_
  refine awps_stp0 rfl rfl (by decide) (stp_extract rfl rfl rfl) ?_
  refine awps_stp0 rfl rfl (by decide) (stp_extract rfl rfl rfl) ?_
  refine awps_stp0 rfl rfl (by decide) (stp_move (.inr rfl) rfl) ?_
  refine awps_stp0 rfl rfl (by decide) (stp_move (.inr rfl) rfl) ?_
  refine awps_nil ?_
  refine thenQ_nil ?_
  refine awp_seq ?_
  refine awp_sub (sub_untag hQ) ?_
  refine awp_region ?_
  refine awps_stp0 rfl rfl (by decide) (stp_move (.inl rfl) rfl) ?_
  first | refine awps_stp0 rfl rfl (by decide) (stp_load_all rfl tf_api_Fact rfl rfl rfl rfl) ?_ | refine awps_stp0 rfl rfl (by decide) (stp_load rfl tf_api_Fact rfl rfl rfl rfl rfl) ?_ | refine awps_stp0 rfl rfl (by decide) (stp_load_elpa rfl tf_api_Fact rfl rfl) ?_ | refine awps_stp0 rfl rfl (by decide) (stp_load_elpn rfl tf_api_Fact rfl rfl rfl) ?_
  refine awps_call (avs := [_, _]) true rfl rfl rfl (by decide) en_facts_Find rfl rfl (k2) rfl rfl ?_
  refine awps_stp0 rfl rfl (by decide) (stp_move (.inl rfl) rfl) ?_
  refine awps_stp0 rfl rfl (by decide) (stp_extract rfl rfl rfl) ?_
  refine awps_stp0 rfl rfl (by decide) (stp_extract rfl rfl rfl) ?_
  refine awps_stp0 rfl rfl (by decide) (stp_move (.inr rfl) rfl) ?_
  refine awps_stp0 rfl rfl (by decide) (stp_move (.inr rfl) rfl) ?_
  refine awps_nil ?_
  refine thenQ_nil ?_
  refine awp_seq ?_
  refine awp_region ?_
  refine awps_stp0 rfl rfl (by decide) (stp_move (.inl rfl) rfl) ?_
  refine awps_call (avs := [_]) true rfl rfl rfl (by decide) en_almagestlaw9_num rfl rfl (num9_ok _) rfl rfl ?_
  refine awps_stp0 rfl rfl (by decide) (stp_binI rfl rfl rfl rfl) ?_
  refine awps_stp0 rfl rfl (by decide) (stp_move (.inl rfl) rfl) ?_
  refine awps_split 23 rfl (fun g23 => ?_) (fun g23 => ?_)
  · try simp only [↓str_beq_t, ↓str_beq_f, decide_eq_true_eq, decide_eq_false_iff_not, Bool.not_eq_true', Bool.not_eq_false', Int.not_lt, Int.not_le, beq_iff_eq, beq_eq_false_iff_ne, bne_iff_ne, bne_eq_false_iff_eq, ne_eq] at g23
    refine awps_g0 rfl rfl rfl (by decide) rfl (by decide) (stp_move (.inl rfl) rfl) ?_
    refine awps_g0 rfl rfl rfl (by decide) rfl (by decide) (stp_call (avs := [_]) true rfl en_almagestlaw9_num rfl rfl (num9_ok _) (fun _ => rfl) rfl) ?_
    refine awps_g0 rfl rfl rfl (by decide) rfl (by decide) (stp_binI rfl rfl rfl rfl) ?_
    refine awps_stp0 rfl rfl (by decide) (stp_pick rfl rfl rfl) ?_
    refine awps_stp0 rfl rfl (by decide) (stp_move (.inl rfl) rfl) ?_
    refine awps_split 28 rfl (fun g28 => ?_) (fun g28 => ?_)
    · try simp only [↓str_beq_t, ↓str_beq_f, decide_eq_true_eq, decide_eq_false_iff_not, Bool.not_eq_true', Bool.not_eq_false', Int.not_lt, Int.not_le, beq_iff_eq, beq_eq_false_iff_ne, bne_iff_ne, bne_eq_false_iff_eq, ne_eq] at g28
      refine awps_g0 rfl rfl rfl (by decide) rfl (by decide) (stp_move (.inl rfl) rfl) ?_
      refine awps_g0 rfl rfl rfl (by decide) rfl (by decide) (stp_binI rfl rfl rfl rfl) ?_
      refine awps_stp0 rfl rfl (by decide) (stp_pick rfl rfl rfl) ?_
      refine awps_stp0 rfl rfl (by decide) (stp_move (.inr rfl) rfl) ?_
      refine awps_nil ?_
      refine thenQ_nil ?_
      refine awp_ret ?_
      -- leaf g23Tg28T
      refine ret0 (noL hL) (.inl rfl) (resAs_tmp rfl (resAs_nil)) ?_ ?_
      · rfl
      first
      | exact ⟨rfl, rfl⟩
      | exact absurd trivial (by assumption)
    try simp only [↓str_beq_t, ↓str_beq_f, decide_eq_true_eq, decide_eq_false_iff_not, Bool.not_eq_true', Bool.not_eq_false', Int.not_lt, Int.not_le, beq_iff_eq, beq_eq_false_iff_ne, bne_iff_ne, bne_eq_false_iff_eq, ne_eq] at g28
    refine awps_gs rfl rfl rfl rfl (by decide) rfl (by decide) ?_
    refine awps_gs rfl rfl rfl rfl (by decide) rfl (by decide) ?_
    refine awps_stp0 rfl rfl (by decide) (stp_pick rfl rfl rfl) ?_
    refine awps_stp0 rfl rfl (by decide) (stp_move (.inr rfl) rfl) ?_
    refine awps_nil ?_
    refine thenQ_nil ?_
    refine awp_ret ?_
    -- leaf g23Tg28F
    refine ret0 (noL hL) (.inl rfl) (resAs_tmp rfl (resAs_nil)) ?_ ?_
    · rfl
    first
    | exact ⟨rfl, rfl⟩
    | exact absurd trivial (by assumption)
  try simp only [↓str_beq_t, ↓str_beq_f, decide_eq_true_eq, decide_eq_false_iff_not, Bool.not_eq_true', Bool.not_eq_false', Int.not_lt, Int.not_le, beq_iff_eq, beq_eq_false_iff_ne, bne_iff_ne, bne_eq_false_iff_eq, ne_eq] at g23
  refine awps_gs rfl rfl rfl rfl (by decide) rfl (by decide) ?_
  refine awps_gs rfl rfl rfl rfl (by decide) rfl (by decide) ?_
  refine awps_gs rfl rfl rfl rfl (by decide) rfl (by decide) ?_
  refine awps_stp0 rfl rfl (by decide) (stp_pick rfl rfl rfl) ?_
  refine awps_stp0 rfl rfl (by decide) (stp_move (.inl rfl) rfl) ?_
  refine awps_gs rfl rfl rfl rfl (by decide) rfl (by decide) ?_
  refine awps_gs rfl rfl rfl rfl (by decide) rfl (by decide) ?_
  refine awps_stp0 rfl rfl (by decide) (stp_pick rfl rfl rfl) ?_
  refine awps_stp0 rfl rfl (by decide) (stp_move (.inr rfl) rfl) ?_
  refine awps_nil ?_
  refine thenQ_nil ?_
  refine awp_ret ?_
  -- leaf g23F
  refine ret0 (noL hL) (.inl rfl) (resAs_tmp rfl (resAs_nil)) ?_ ?_
  · rfl
  first
  | exact ⟨rfl, rfl⟩
  | exact absurd trivial (by assumption)
end Go.Proofs.Ytdecgkhdbfgldaa

set_option linter.unusedVariables false
set_option linter.unusedSimpArgs false
set_option maxRecDepth 8000
namespace Go.Proofs.Ytdecgkhdbfgldaa
open Go
theorem run_eqSpan (w : World) (a b c d : Int) : (binOp .eql 51 (.agg #[.int .i64 a, .int .i64 b]) (.agg #[.int .i64 c, .int .i64 d])).run Try.prog w = .ok (.bool (a == c && b == d)) w := by
  have u3 := Try.underlying3
  have a3 := Try.isAgg3
  have z3 := Try.sizeOf3
  have hS : Try.prog.underlying 51 = some (.struct (Try.prog.fieldsOf 51)) := by kernel_rfl
  have hp : Try.prog.stoodInHeld 51 = false := by kernel_rfl
  rw [run_eql_struct, show (10000 : Nat) = 9999 + 1 from rfl, run_equalIn_agg w 9999 51 _ _ hS hp]
  simp only [Program.fieldsOf, Try.underlying51]
  go_simp
  by_cases h1 : a = c <;> by_cases h2 : b = d <;> simp [h1, h2]
theorem stp_eqSpan {c : Ctx} {N : Nat} {σ : St} {o : Oper} {x y : Operand} {t' : TypeId} {a b p q : Int} (ho : o.op = .binOp .eql 51 x y t') (hx : ev σ.T x = some (.agg [iv a, iv b])) (hy : ev σ.T y = some (.agg [iv p, iv q])) : Stp Try.prog c N o σ [] (.imm (.bool (a == p && b == q))) [] := by
  refine stp_value fun σ' h1 _ st w ρ S hc => ⟨_, ?_, by simp only [Rep]; rfl⟩
  have hx' := ev_rep hc (h1 x (by simp [ho, Op.operands]) _ hx)
  have hy' := ev_rep hc (h1 y (by simp [ho, Op.operands]) _ hy)
  simp only [Rep, RepL] at hx' hy'
  obtain ⟨_, hxe, _, _, _, rfl, rfl, _, _, rfl, rfl, rfl⟩ := hx'
  obtain ⟨_, hye, _, _, _, rfl, rfl, _, _, rfl, rfl, rfl⟩ := hy'
  simp only [execOp, ho, hxe, hye]
  simp only [Sem.run_bind, run_eqGuard_agg (P := Try.prog) w .eql 51 x y _ _ (by kernel_rfl), Result.andThen_ok]
  have := run_eqSpan w a b p q
  simp only [List.toArray] at *
  simp [Sem.run_bind, this]
def eqF (a b : Ft) : Bool := eqT 5 a.t b.t && (a.fr == b.fr && a.to == b.to)
theorem EqFact_ok (a b : Ft) (hd : dle 5 a.t) (ha : a.wf) (hb : b.wf) : PF 23 [ftA a, ftA b] (bv (eqF a b)) := by
  have ha1 := ha.1
  have hb1 := hb.1
  refine AC_intro Try.func23 rfl Try.ntmps23 (Nat.le_of_ble_eq_true rfl) fun c hL hQ hDD => ?_
  refine awp_seq ?_
  refine awp_region ?_
  refine awps_stp1 rfl rfl (by decide) (stp_box 2 rfl rfl rfl) rfl ?_
  refine awps_stp1 rfl rfl (by decide) (stp_box 3 rfl rfl rfl) rfl ?_
  refine awps_stp0 rfl rfl (by decide) (stp_move (.inr rfl) rfl) ?_
  refine awps_nil ?_
  refine thenQ_nil ?_
  refine awp_seq ?_
  refine awp_region ?_
  first | refine awps_stp0 rfl rfl (by decide) (stp_fieldAddr rfl fo_api_Fact_0 rfl) ?_ | refine awps_stp0 rfl rfl (by decide) (stp_fieldAddr_elp rfl fo_api_Fact_0 rfl) ?_
  first | refine awps_stp0 rfl rfl (by decide) (stp_load_all rfl tf_api_Term rfl rfl rfl rfl) ?_ | refine awps_stp0 rfl rfl (by decide) (stp_load rfl tf_api_Term rfl rfl rfl rfl rfl) ?_ | refine awps_stp0 rfl rfl (by decide) (stp_load_elpa rfl tf_api_Term rfl rfl) ?_ | refine awps_stp0 rfl rfl (by decide) (stp_load_elpn rfl tf_api_Term rfl rfl rfl) ?_
  first | refine awps_stp0 rfl rfl (by decide) (stp_fieldAddr rfl fo_api_Fact_0 rfl) ?_ | refine awps_stp0 rfl rfl (by decide) (stp_fieldAddr_elp rfl fo_api_Fact_0 rfl) ?_
  first | refine awps_stp0 rfl rfl (by decide) (stp_load_all rfl tf_api_Term rfl rfl rfl rfl) ?_ | refine awps_stp0 rfl rfl (by decide) (stp_load rfl tf_api_Term rfl rfl rfl rfl rfl) ?_ | refine awps_stp0 rfl rfl (by decide) (stp_load_elpa rfl tf_api_Term rfl rfl) ?_ | refine awps_stp0 rfl rfl (by decide) (stp_load_elpn rfl tf_api_Term rfl rfl rfl) ?_
  refine awps_call (avs := [_, _]) true rfl rfl rfl (by decide) en_almagestref0_EqTerm rfl rfl (EqTerm_ok 5 a.t b.t hd ha1 hb1) rfl rfl ?_
  refine awps_stp0 rfl rfl (by decide) (stp_move (.inl rfl) rfl) ?_
  refine awps_split 10 rfl (fun g10 => ?_) (fun g10 => ?_)
  · try simp only [↓str_beq_t, ↓str_beq_f, decide_eq_true_eq, decide_eq_false_iff_not, Bool.not_eq_true', Bool.not_eq_false', Int.not_lt, Int.not_le, beq_iff_eq, beq_eq_false_iff_ne, bne_iff_ne, bne_eq_false_iff_eq, ne_eq] at g10
    first | refine awps_g0 rfl rfl rfl (by decide) rfl (by decide) (stp_fieldAddr rfl fo_api_Fact_1 rfl) ?_ | refine awps_g0 rfl rfl rfl (by decide) rfl (by decide) (stp_fieldAddr_elp rfl fo_api_Fact_1 rfl) ?_
    first | refine awps_g0 rfl rfl rfl (by decide) rfl (by decide) (stp_load_all rfl tf_api_Span rfl rfl rfl rfl) ?_ | refine awps_g0 rfl rfl rfl (by decide) rfl (by decide) (stp_load rfl tf_api_Span rfl rfl rfl rfl rfl) ?_ | refine awps_g0 rfl rfl rfl (by decide) rfl (by decide) (stp_load_elpa rfl tf_api_Span rfl rfl) ?_ | refine awps_g0 rfl rfl rfl (by decide) rfl (by decide) (stp_load_elpn rfl tf_api_Span rfl rfl rfl) ?_
    first | refine awps_g0 rfl rfl rfl (by decide) rfl (by decide) (stp_fieldAddr rfl fo_api_Fact_1 rfl) ?_ | refine awps_g0 rfl rfl rfl (by decide) rfl (by decide) (stp_fieldAddr_elp rfl fo_api_Fact_1 rfl) ?_
    first | refine awps_g0 rfl rfl rfl (by decide) rfl (by decide) (stp_load_all rfl tf_api_Span rfl rfl rfl rfl) ?_ | refine awps_g0 rfl rfl rfl (by decide) rfl (by decide) (stp_load rfl tf_api_Span rfl rfl rfl rfl rfl) ?_ | refine awps_g0 rfl rfl rfl (by decide) rfl (by decide) (stp_load_elpa rfl tf_api_Span rfl rfl) ?_ | refine awps_g0 rfl rfl rfl (by decide) rfl (by decide) (stp_load_elpn rfl tf_api_Span rfl rfl rfl) ?_
    refine awps_g0 rfl rfl rfl (by decide) rfl (by decide) (stp_eqSpan rfl rfl rfl) ?_
    refine awps_stp0 rfl rfl (by decide) (stp_pick rfl rfl rfl) ?_
    refine awps_stp0 rfl rfl (by decide) (stp_move (.inr rfl) rfl) ?_
    refine awps_nil ?_
    refine thenQ_nil ?_
    refine awp_ret ?_
    -- leaf g10T
    refine ret0 (noL hL) (.inl rfl) (resAs_tmp rfl (resAs_nil)) ?_ ?_
    · rfl
    refine ⟨bool_w ?_, rfl⟩
    simp_all [eqF]
  try simp only [↓str_beq_t, ↓str_beq_f, decide_eq_true_eq, decide_eq_false_iff_not, Bool.not_eq_true', Bool.not_eq_false', Int.not_lt, Int.not_le, beq_iff_eq, beq_eq_false_iff_ne, bne_iff_ne, bne_eq_false_iff_eq, ne_eq] at g10
  refine awps_gs rfl rfl rfl rfl (by decide) rfl (by decide) ?_
  refine awps_gs rfl rfl rfl rfl (by decide) rfl (by decide) ?_
  refine awps_gs rfl rfl rfl rfl (by decide) rfl (by decide) ?_
  refine awps_gs rfl rfl rfl rfl (by decide) rfl (by decide) ?_
  refine awps_gs rfl rfl rfl rfl (by decide) rfl (by decide) ?_
  refine awps_stp0 rfl rfl (by decide) (stp_pick rfl rfl rfl) ?_
  refine awps_stp0 rfl rfl (by decide) (stp_move (.inr rfl) rfl) ?_
  refine awps_nil ?_
  refine thenQ_nil ?_
  refine awp_ret ?_
  -- leaf g10F
  refine ret0 (noL hL) (.inl rfl) (resAs_tmp rfl (resAs_nil)) ?_ ?_
  · rfl
  refine ⟨bool_w ?_, rfl⟩
  simp_all [eqF]
end Go.Proofs.Ytdecgkhdbfgldaa

set_option linter.unusedVariables false
set_option linter.unusedSimpArgs false
namespace Go.Proofs.Ytdecgkhdbfgldaa
open Go
theorem ordL_cmpL (f g : Tm → Tm → Int) : ∀ (l m : List Tm) (n : Int), l.length = m.length → (∀ u ∈ l, ∀ v ∈ m, f u v = g u v) → ordL g n l m = if n = 0 then cmpL f l m else n
  | [], [], n, _, _ => by
    simp only [ordL, cmpL]; split
    · rename_i h; exact h
    · rfl
  | a :: l, b :: m, n, hl, h => by
    have ih := ordL_cmpL f g l m (g a b) (by simpa using hl) (fun u hu v hv => h u (by simp [hu]) v (by simp [hv]))
    have h0 := h a (by simp) b (by simp)
    simp only [ordL, cmpL]
    split
    · rw [ih, h0]
    · rfl
  | [], _ :: _, _, hl, _ => by simp at hl
  | _ :: _, [], _, hl, _ => by simp at hl
theorem cmpI_self (a : Int) : cmpI a a = 0 := (cmpI_zero a a).2 rfl
theorem cmpS_self (a : ByteArray) : cmpS a a = 0 := (cmpS_zero a a).2 rfl
theorem cmp_ord : ∀ (d : Nat) (a b : Tm), dle d a → a.shp → b.shp → cmpT d a b = ordT d a b
  | 0, a, b, h, _, _ => h.elim
  | d + 1, a, b, h, sa, sb => by
    have ta := ((Tm.shp_iff a).1 sa).1
    have tb := ((Tm.shp_iff b).1 sb).1
    by_cases hk : a.kind = b.kind
    case neg =>
      have h1 : cmpI a.kind b.kind ≠ 0 := fun e => hk ((cmpI_zero _ _).1 e)
      rw [ordT, if_pos hk, cmpT]
      simp [orL, h1]
    have hk' : ¬ a.kind ≠ b.kind := by simpa using hk
    have h1 : cmpI a.kind b.kind = 0 := (cmpI_zero _ _).2 hk
    rcases ta with ⟨k1, _, n1, l1⟩ | ⟨k1, _, n1, l1⟩ | ⟨k1, _, n1, l1⟩
    · rw [ordT, if_neg hk', if_pos k1, cmpT]
      have k2 : b.kind = 1 := by omega
      rcases tb with ⟨_, _, n2, l2⟩ | ⟨e, _⟩ | ⟨e, _⟩
      · rw [n1, n2, l1, l2, h1]
        simp only [orL, cmpI_self, List.length_nil, cmpL]
        by_cases hz : cmpS a.name b.name = 0 <;> simp [hz]
      · omega
      · omega
    · rw [ordT, if_neg hk', if_neg (show ¬ a.kind = 1 by omega), if_pos k1, cmpT]
      rcases tb with ⟨e, _⟩ | ⟨_, _, n2, l2⟩ | ⟨e, _⟩
      · omega
      · have e1 : a.name = b.name := by
          have x1 : a.name = ⟨#[]⟩ := ByteArray.ext (Array.eq_empty_of_size_eq_zero n1)
          have x2 : b.name = ⟨#[]⟩ := ByteArray.ext (Array.eq_empty_of_size_eq_zero n2)
          rw [x1, x2]
        rw [l1, l2, h1, e1]
        simp only [orL, cmpI_self, cmpS_self, List.length_nil, cmpL]
        by_cases hz : cmpI a.n b.n = 0 <;> simp [hz]
      · omega
    · rw [ordT, if_neg hk', if_neg (show ¬ a.kind = 1 by omega), if_neg (show ¬ a.kind = 2 by omega), cmpT]
      rcases tb with ⟨e, _⟩ | ⟨e, _⟩ | ⟨_, _, n2, l2⟩
      · omega
      · omega
      · have ih : ∀ u ∈ a.args, ∀ v ∈ b.args, cmpT d u v = ordT d u v := fun u hu v hv => cmp_ord d u v (h u hu) (sa.arg hu) (sb.arg hv)
        rw [n1, n2, h1]
        by_cases hl : cmpI a.args.length b.args.length = 0
        · have hlen : a.args.length = b.args.length := by have := (cmpI_zero _ _).1 hl; omega
          rw [if_pos hl, ordL_cmpL (cmpT d) (ordT d) a.args b.args _ hlen ih]
          by_cases hn : cmpS a.name b.name = 0
          · simp [orL, cmpI_self, hl, hn]
          · simp [orL, cmpI_self, hl, hn]
        · rw [if_neg hl]
          have : ordL (ordT d) (cmpI a.args.length b.args.length) a.args b.args = cmpI a.args.length b.args.length := by
            cases ha : a.args <;> cases hb : b.args <;> simp only [ordL]
            rw [ha, hb] at hl
            rw [if_neg hl]
          rw [this]
          simp [orL, cmpI_self, hl]
end Go.Proofs.Ytdecgkhdbfgldaa

set_option linter.unusedVariables false
set_option linter.unusedSimpArgs false
set_option maxRecDepth 8000
namespace Go.Proofs.Ytdecgkhdbfgldaa
open Go
theorem fact_parts {f : Ft} (h : factB f = true) : mayT f.t = true ∧ f.t.shp ∧ dle 5 f.t := ⟨factB_may h, may_shp (factB_may h), may_dle (factB_may h)⟩
theorem ord_cmp {a b : Ft} (ha : factB a = true) (hb : factB b = true) : ordF a b = cmpF a b := by
  rw [ordF, cmpF, cmp_ord 5 a.t b.t (fact_parts ha).2.2 (fact_parts ha).2.1 (fact_parts hb).2.1]
theorem cmpF_zero {a b : Ft} (hd : dle 5 a.t) : cmpF a b = 0 ↔ eqF a b = true := by
  have h1 := cmpT_zero 5 a.t b.t hd
  have h2 := cmpI_zero a.fr b.fr
  have h3 := cmpI_zero a.to b.to
  simp only [cmpF, orL, eqF, Bool.and_eq_true, beq_iff_eq, ← h1, ← h2, ← h3]
  split
  · rename_i e1
    split
    · rename_i e2
      split
      · rename_i e3; simp [e1, e2, e3]
      · rename_i e3; simp [e1, e2, e3]
    · rename_i e2; simp [e1, e2]
  · rename_i e1; simp [e1]
theorem FactsOrder_ok (p : Ask9) (hp : p.wf) : PF 4 [.agg (lift false (a9D p))] (bv true) := by
  obtain ⟨L, l, Z⟩ := p
  obtain ⟨⟨hlL, hwL⟩, ⟨hl, hwF⟩, hlZ, hwZ⟩ := id hp
  have hlen := ftDs_length l
  have hlen2 : (ftDs (Ask9.mk L l Z).F).length = l.length := hlen
  simp only [lenOk] at hl
  refine AC_intro Try.func4 rfl Try.ntmps4 (Nat.le_of_ble_eq_true rfl) fun c hL hQ hDD => ?_
  refine awp_seq ?_
  refine awp_region ?_
  refine awps_stp1 rfl rfl (by decide) (stp_box 1 rfl rfl rfl) rfl ?_
  refine awps_stp0 rfl rfl (by decide) (stp_move (.inr rfl) rfl) ?_
  refine awps_nil ?_
  refine thenQ_nil ?_
  refine awp_seq ?_
  refine awp_seq ?_
  refine awp_region ?_
  first | refine awps_stp0 rfl rfl (by decide) (stp_load_all rfl tf_almagestlaw9_Ask rfl rfl rfl rfl) ?_ | refine awps_stp0 rfl rfl (by decide) (stp_load rfl tf_almagestlaw9_Ask rfl rfl rfl rfl rfl) ?_ | refine awps_stp0 rfl rfl (by decide) (stp_load_elpa rfl tf_almagestlaw9_Ask rfl rfl) ?_ | refine awps_stp0 rfl rfl (by decide) (stp_load_elpn rfl tf_almagestlaw9_Ask rfl rfl rfl) ?_
  refine awps_call (avs := [_]) true rfl rfl rfl (by decide) en_almagestlaw9_Heavy rfl rfl (Heavy9_ok _ (by assumption)) rfl rfl ?_
  refine awps_nil ?_
  refine thenQ_nil ?_
  refine awp_cond rfl (fun c0 => ?_) (fun c0 => ?_)
  · try simp only [↓str_beq_t, ↓str_beq_f, decide_eq_true_eq, decide_eq_false_iff_not, Bool.not_eq_true', Bool.not_eq_false', Int.not_lt, Int.not_le, beq_iff_eq, beq_eq_false_iff_ne, bne_iff_ne, bne_eq_false_iff_eq, ne_eq] at c0
    refine awp_seq ?_
    refine awp_region ?_
    refine awps_stp0 rfl rfl (by decide) (stp_move (.inr rfl) rfl) ?_
    refine awps_nil ?_
    refine thenQ_nil ?_
    refine awp_ret ?_
    refine thenQ_ret (?_)
    -- leaf 0T
    refine ret0 (noL hL) (.inl rfl) (resAs_tmp rfl (resAs_nil)) ?_ ?_
    · rfl
    first
    | exact ⟨rfl, rfl⟩
    | (exfalso; exact c4 (by rw [Bool.eq_iff_iff, beq_iff_eq]; exact hZ))
    | (exfalso; exact absurd (show (1 : Int) = 0 from m83) (by decide))
    | (exfalso; rw [show nameB ⟨#[97]⟩ = true by kernel_rfl] at g102; cases g102; done)
    | trace_state
  try simp only [↓str_beq_t, ↓str_beq_f, decide_eq_true_eq, decide_eq_false_iff_not, Bool.not_eq_true', Bool.not_eq_false', Int.not_lt, Int.not_le, beq_iff_eq, beq_eq_false_iff_ne, bne_iff_ne, bne_eq_false_iff_eq, ne_eq] at c0
  refine awp_skip ?_
  refine thenQ_nil ?_
  refine awp_seq ?_
  refine awp_seq ?_
  refine awp_region ?_
  refine awps_stp0 rfl rfl (by decide) (stp_move (.inr rfl) rfl) ?_
  refine awps_nil ?_
  refine thenQ_nil ?_
  refine awp_block ?_
  refine awp_while (8) (fun _ => True) (fun k => ⟨[(1, .ptr 1 0), (3, iv (k : Int))], [(1, .box (lift false (a9D ⟨L, l, Z⟩)))]⟩) (trivial) ?_ (fun k hk hp => ?_)
  · exact sub_re (SubT.cons (lk_eq rfl (by first | rfl | simp)) (SubT.cons (lk_eq rfl (by first | rfl | simp)) (SubT.nil))) (SubO.cons (ok_eq rfl (by rfl)) (SubO.nil)) rfl rfl (noL' (noL hL) _)
  refine awp_seq ?_
  refine awp_seq ?_
  refine awp_region ?_
  refine awps_stp0 rfl rfl (by decide) (stp_move (.inl rfl) rfl) ?_
  first | refine awps_stp0 rfl rfl (by decide) (stp_fieldAddr rfl fo_almagestlaw9_Ask_1 rfl) ?_ | refine awps_stp0 rfl rfl (by decide) (stp_fieldAddr_elp rfl fo_almagestlaw9_Ask_1 rfl) ?_
  first | refine awps_stp0 rfl rfl (by decide) (stp_load rfl tf_S_api_Fact rfl rfl rfl rfl rfl) ?_ | refine awps_stp0 rfl rfl (by decide) (stp_load_elp1 rfl tf_S_api_Fact rfl) ?_ | refine awps_stp0 rfl rfl (by decide) (stp_load_elpn rfl tf_S_api_Fact rfl rfl rfl) ?_
  first | refine awps_stp0 rfl rfl (by decide) (stp_len_dat rfl sl_S_api_Fact rfl) ?_ | refine awps_stp0 rfl rfl (by decide) (stp_len_rowd rfl sl_S_api_Fact rfl rfl) ?_ | refine awps_stp0 rfl rfl (by decide) (stp_len_nil rfl sl_S_api_Fact rfl) ?_ | refine awps_stp0 rfl rfl (by decide) (stp_len_vw rfl sl_S_api_Fact rfl) ?_
  refine awps_stp0 rfl rfl (by decide) (stp_binI rfl rfl rfl rfl) ?_
  refine awps_stp0 rfl rfl (by decide) (stp_move (.inl rfl) rfl) ?_
  refine awps_split 16 rfl (fun g16 => ?_) (fun g16 => ?_)
  · try simp only [↓str_beq_t, ↓str_beq_f, decide_eq_true_eq, decide_eq_false_iff_not, Bool.not_eq_true', Bool.not_eq_false', Int.not_lt, Int.not_le, beq_iff_eq, beq_eq_false_iff_ne, bne_iff_ne, bne_eq_false_iff_eq, ne_eq] at g16
    refine awps_g0 rfl rfl rfl (by decide) rfl (by decide) (stp_move (.inl rfl) rfl) ?_
    refine awps_g0 rfl rfl rfl (by decide) rfl (by decide) (stp_binI rfl rfl rfl rfl) ?_
    refine awps_stp0 rfl rfl (by decide) (stp_pick rfl rfl rfl) ?_
    refine awps_nil ?_
    refine thenQ_nil ?_
    refine awp_cond rfl (fun c1 => ?_) (fun c1 => ?_)
    · try simp only [↓str_beq_t, ↓str_beq_f, decide_eq_true_eq, decide_eq_false_iff_not, Bool.not_eq_true', Bool.not_eq_false', Int.not_lt, Int.not_le, beq_iff_eq, beq_eq_false_iff_ne, bne_iff_ne, bne_eq_false_iff_eq, ne_eq] at c1
      obtain ⟨a, ha⟩ := get_of_lt (l := l) (k := k) (by omega)
      have wa := hwF a (List.mem_of_getElem? ha)
      refine awp_skip ?_
      refine thenQ_nil ?_
      refine awp_seq ?_
      refine awp_block ?_
      refine awp_seq ?_
      refine awp_region ?_
      refine awps_stp0 rfl rfl (by decide) (stp_move (.inr rfl) rfl) ?_
      refine awps_nil ?_
      refine thenQ_nil ?_
      refine awp_block ?_
      refine awp_while (8) (fun _ => True) (fun j => ⟨[(1, .ptr 1 0), (3, iv (k : Int)), (4, iv (j : Int))], [(1, .box (lift false (a9D ⟨L, l, Z⟩)))]⟩) (trivial) ?_ (fun j hj hpj => ?_)
      · exact sub_re (SubT.cons (lk_eq rfl (by first | rfl | simp)) (SubT.cons (lk_eq rfl (by first | rfl | simp)) (SubT.cons (lk_eq rfl (by first | rfl | simp)) (SubT.nil)))) (SubO.cons (ok_eq rfl (by rfl)) (SubO.nil)) rfl rfl (noL' (noL hL) _)
      refine awp_seq ?_
      refine awp_seq ?_
      refine awp_region ?_
      refine awps_stp0 rfl rfl (by decide) (stp_move (.inl rfl) rfl) ?_
      first | refine awps_stp0 rfl rfl (by decide) (stp_fieldAddr rfl fo_almagestlaw9_Ask_1 rfl) ?_ | refine awps_stp0 rfl rfl (by decide) (stp_fieldAddr_elp rfl fo_almagestlaw9_Ask_1 rfl) ?_
      first | refine awps_stp0 rfl rfl (by decide) (stp_load rfl tf_S_api_Fact rfl rfl rfl rfl rfl) ?_ | refine awps_stp0 rfl rfl (by decide) (stp_load_elp1 rfl tf_S_api_Fact rfl) ?_ | refine awps_stp0 rfl rfl (by decide) (stp_load_elpn rfl tf_S_api_Fact rfl rfl rfl) ?_
      first | refine awps_stp0 rfl rfl (by decide) (stp_len_dat rfl sl_S_api_Fact rfl) ?_ | refine awps_stp0 rfl rfl (by decide) (stp_len_rowd rfl sl_S_api_Fact rfl rfl) ?_ | refine awps_stp0 rfl rfl (by decide) (stp_len_nil rfl sl_S_api_Fact rfl) ?_ | refine awps_stp0 rfl rfl (by decide) (stp_len_vw rfl sl_S_api_Fact rfl) ?_
      refine awps_stp0 rfl rfl (by decide) (stp_binI rfl rfl rfl rfl) ?_
      refine awps_stp0 rfl rfl (by decide) (stp_move (.inl rfl) rfl) ?_
      refine awps_split 27 rfl (fun g27 => ?_) (fun g27 => ?_)
      · try simp only [↓str_beq_t, ↓str_beq_f, decide_eq_true_eq, decide_eq_false_iff_not, Bool.not_eq_true', Bool.not_eq_false', Int.not_lt, Int.not_le, beq_iff_eq, beq_eq_false_iff_ne, bne_iff_ne, bne_eq_false_iff_eq, ne_eq] at g27
        refine awps_g0 rfl rfl rfl (by decide) rfl (by decide) (stp_move (.inl rfl) rfl) ?_
        refine awps_g0 rfl rfl rfl (by decide) rfl (by decide) (stp_binI rfl rfl rfl rfl) ?_
        refine awps_stp0 rfl rfl (by decide) (stp_pick rfl rfl rfl) ?_
        refine awps_nil ?_
        refine thenQ_nil ?_
        refine awp_cond rfl (fun c2 => ?_) (fun c2 => ?_)
        · try simp only [↓str_beq_t, ↓str_beq_f, decide_eq_true_eq, decide_eq_false_iff_not, Bool.not_eq_true', Bool.not_eq_false', Int.not_lt, Int.not_le, beq_iff_eq, beq_eq_false_iff_ne, bne_iff_ne, bne_eq_false_iff_eq, ne_eq] at c2
          obtain ⟨b, hb⟩ := get_of_lt (l := l) (k := j) (by omega)
          have wb := hwF b (List.mem_of_getElem? hb)
          refine awp_skip ?_
          refine thenQ_nil ?_
          refine awp_seq ?_
          refine awp_block ?_
          refine awp_seq ?_
          refine awp_drawG 15 mixed rfl rfl rfl rfl ?_
          first | refine MGo_c0 rfl (by decide) (.run rfl (stp_fieldAddr rfl fo_almagestlaw9_Ask_1 rfl)) ?_ | refine MGo_c0 rfl (by decide) (.run rfl (stp_fieldAddr_elp rfl fo_almagestlaw9_Ask_1 rfl)) ?_
          first | refine MGo_c0 rfl (by decide) (.run rfl (stp_load rfl tf_S_api_Fact rfl rfl rfl rfl rfl)) ?_ | refine MGo_c0 rfl (by decide) (.run rfl (stp_load_elp1 rfl tf_S_api_Fact rfl)) ?_ | refine MGo_c0 rfl (by decide) (.run rfl (stp_load_elpn rfl tf_S_api_Fact rfl rfl rfl)) ?_
          refine MGo_c0 rfl (by decide) (.run rfl (stp_move (.inl rfl) rfl)) ?_
          first | refine MGo_c0 rfl (by decide) (.run rfl (stp_indexAddr rfl sl_S_api_Fact rfl rfl (by omega) (ftDs_get ha))) ?_ | refine MGo_c0 rfl (by decide) (.run rfl (stp_indexAddr_rowd rfl sl_S_api_Fact rfl rfl rfl (by omega) (ftDs_get ha))) ?_ | refine MGo_c0 rfl (by decide) (.run rfl (stp_indexAddr_row rfl sl_S_api_Fact rfl rfl rfl (by omega) (ftDs_get ha) (by decide))) ?_
          first | refine MGo_c0 rfl (by decide) (.run rfl (stp_load_all rfl tf_api_Fact rfl rfl rfl rfl)) ?_ | refine MGo_c0 rfl (by decide) (.run rfl (stp_load rfl tf_api_Fact rfl rfl rfl rfl rfl)) ?_ | refine MGo_c0 rfl (by decide) (.run rfl (stp_load_elpa rfl tf_api_Fact rfl rfl)) ?_ | refine MGo_c0 rfl (by decide) (.run rfl (stp_load_elpn rfl tf_api_Fact rfl rfl rfl)) ?_
          first | refine MGo_c0 rfl (by decide) (.run rfl (stp_fieldAddr rfl fo_almagestlaw9_Ask_1 rfl)) ?_ | refine MGo_c0 rfl (by decide) (.run rfl (stp_fieldAddr_elp rfl fo_almagestlaw9_Ask_1 rfl)) ?_
          first | refine MGo_c0 rfl (by decide) (.run rfl (stp_load rfl tf_S_api_Fact rfl rfl rfl rfl rfl)) ?_ | refine MGo_c0 rfl (by decide) (.run rfl (stp_load_elp1 rfl tf_S_api_Fact rfl)) ?_ | refine MGo_c0 rfl (by decide) (.run rfl (stp_load_elpn rfl tf_S_api_Fact rfl rfl rfl)) ?_
          refine MGo_c0 rfl (by decide) (.run rfl (stp_move (.inl rfl) rfl)) ?_
          first | refine MGo_c0 rfl (by decide) (.run rfl (stp_indexAddr rfl sl_S_api_Fact rfl rfl (by omega) (ftDs_get hb))) ?_ | refine MGo_c0 rfl (by decide) (.run rfl (stp_indexAddr_rowd rfl sl_S_api_Fact rfl rfl rfl (by omega) (ftDs_get hb))) ?_ | refine MGo_c0 rfl (by decide) (.run rfl (stp_indexAddr_row rfl sl_S_api_Fact rfl rfl rfl (by omega) (ftDs_get hb) (by decide))) ?_
          first | refine MGo_c0 rfl (by decide) (.run rfl (stp_load_all rfl tf_api_Fact rfl rfl rfl rfl)) ?_ | refine MGo_c0 rfl (by decide) (.run rfl (stp_load rfl tf_api_Fact rfl rfl rfl rfl rfl)) ?_ | refine MGo_c0 rfl (by decide) (.run rfl (stp_load_elpa rfl tf_api_Fact rfl rfl)) ?_ | refine MGo_c0 rfl (by decide) (.run rfl (stp_load_elpn rfl tf_api_Fact rfl rfl rfl)) ?_
          refine MGo_c0 rfl (by decide) (.run rfl (stp_call (avs := [_, _]) true rfl en_facts_Order rfl rfl (factsOrder_ok a b wa wb) (fun _ => rfl) rfl)) ?_
          refine MGo_c0 rfl (by decide) (.run rfl (stp_move (.inl rfl) rfl)) ?_
          refine MGo_c0 rfl (by decide) (.run rfl (stp_extract rfl rfl rfl)) ?_
          refine MGo_c0 rfl (by decide) (.run rfl (stp_extract rfl rfl rfl)) ?_
          refine MGo_c0 rfl (by decide) (.run rfl (stp_move (.inr rfl) rfl)) ?_
          refine MGo_nil ⟨rfl, rfl, ?_⟩
          refine awps_stp0 rfl rfl (by decide) (stp_move (.inr rfl) rfl) ?_
          refine awps_nil ?_
          refine thenQ_nil ?_
          refine awp_seq ?_
          refine awp_region ?_
          refine awps_stp0 rfl rfl (by decide) (stp_move (.inr rfl) rfl) ?_
          refine awps_stp0 rfl rfl (by decide) (stp_move (.inr rfl) rfl) ?_
          refine awps_nil ?_
          refine thenQ_nil ?_
          refine awp_seq ?_
          refine awp_seq ?_
          refine awp_region ?_
          first | refine awps_stp0 rfl rfl (by decide) (stp_fieldAddr rfl fo_almagestlaw9_Ask_1 rfl) ?_ | refine awps_stp0 rfl rfl (by decide) (stp_fieldAddr_elp rfl fo_almagestlaw9_Ask_1 rfl) ?_
          first | refine awps_stp0 rfl rfl (by decide) (stp_load rfl tf_S_api_Fact rfl rfl rfl rfl rfl) ?_ | refine awps_stp0 rfl rfl (by decide) (stp_load_elp1 rfl tf_S_api_Fact rfl) ?_ | refine awps_stp0 rfl rfl (by decide) (stp_load_elpn rfl tf_S_api_Fact rfl rfl rfl) ?_
          refine awps_stp0 rfl rfl (by decide) (stp_move (.inl rfl) rfl) ?_
          first | refine awps_stp0 rfl rfl (by decide) (stp_indexAddr rfl sl_S_api_Fact rfl rfl (by omega) (ftDs_get ha)) ?_ | refine awps_stp0 rfl rfl (by decide) (stp_indexAddr_rowd rfl sl_S_api_Fact rfl rfl rfl (by omega) (ftDs_get ha)) ?_ | refine awps_stp0 rfl rfl (by decide) (stp_indexAddr_row rfl sl_S_api_Fact rfl rfl rfl (by omega) (ftDs_get ha) (by decide)) ?_
          first | refine awps_stp0 rfl rfl (by decide) (stp_load_all rfl tf_api_Fact rfl rfl rfl rfl) ?_ | refine awps_stp0 rfl rfl (by decide) (stp_load rfl tf_api_Fact rfl rfl rfl rfl rfl) ?_ | refine awps_stp0 rfl rfl (by decide) (stp_load_elpa rfl tf_api_Fact rfl rfl) ?_ | refine awps_stp0 rfl rfl (by decide) (stp_load_elpn rfl tf_api_Fact rfl rfl rfl) ?_
          refine awps_call (avs := [_]) true rfl rfl rfl (by decide) en_almagestref7_Fact rfl rfl (rFact_ok a wa) rfl rfl ?_
          refine awps_stp0 rfl rfl (by decide) (stp_move (.inl rfl) rfl) ?_
          refine awps_split 53 rfl (fun g53 => ?_) (fun g53 => ?_)
          · try simp only [↓str_beq_t, ↓str_beq_f, decide_eq_true_eq, decide_eq_false_iff_not, Bool.not_eq_true', Bool.not_eq_false', Int.not_lt, Int.not_le, beq_iff_eq, beq_eq_false_iff_ne, bne_iff_ne, bne_eq_false_iff_eq, ne_eq] at g53
            first | refine awps_g0 rfl rfl rfl (by decide) rfl (by decide) (stp_fieldAddr rfl fo_almagestlaw9_Ask_1 rfl) ?_ | refine awps_g0 rfl rfl rfl (by decide) rfl (by decide) (stp_fieldAddr_elp rfl fo_almagestlaw9_Ask_1 rfl) ?_
            first | refine awps_g0 rfl rfl rfl (by decide) rfl (by decide) (stp_load rfl tf_S_api_Fact rfl rfl rfl rfl rfl) ?_ | refine awps_g0 rfl rfl rfl (by decide) rfl (by decide) (stp_load_elp1 rfl tf_S_api_Fact rfl) ?_ | refine awps_g0 rfl rfl rfl (by decide) rfl (by decide) (stp_load_elpn rfl tf_S_api_Fact rfl rfl rfl) ?_
            refine awps_g0 rfl rfl rfl (by decide) rfl (by decide) (stp_move (.inl rfl) rfl) ?_
            first | refine awps_g0 rfl rfl rfl (by decide) rfl (by decide) (stp_indexAddr rfl sl_S_api_Fact rfl rfl (by omega) (ftDs_get hb)) ?_ | refine awps_g0 rfl rfl rfl (by decide) rfl (by decide) (stp_indexAddr_rowd rfl sl_S_api_Fact rfl rfl rfl (by omega) (ftDs_get hb)) ?_ | refine awps_g0 rfl rfl rfl (by decide) rfl (by decide) (stp_indexAddr_row rfl sl_S_api_Fact rfl rfl rfl (by omega) (ftDs_get hb) (by decide)) ?_
            first | refine awps_g0 rfl rfl rfl (by decide) rfl (by decide) (stp_load_all rfl tf_api_Fact rfl rfl rfl rfl) ?_ | refine awps_g0 rfl rfl rfl (by decide) rfl (by decide) (stp_load rfl tf_api_Fact rfl rfl rfl rfl rfl) ?_ | refine awps_g0 rfl rfl rfl (by decide) rfl (by decide) (stp_load_elpa rfl tf_api_Fact rfl rfl) ?_ | refine awps_g0 rfl rfl rfl (by decide) rfl (by decide) (stp_load_elpn rfl tf_api_Fact rfl rfl rfl) ?_
            refine awps_g0 rfl rfl rfl (by decide) rfl (by decide) (stp_call (avs := [_]) true rfl en_almagestref7_Fact rfl rfl (rFact_ok b wb) (fun _ => rfl) rfl) ?_
            refine awps_stp0 rfl rfl (by decide) (stp_pick rfl rfl rfl) ?_
            refine awps_nil ?_
            refine thenQ_nil ?_
            refine awp_cond rfl (fun c3 => ?_) (fun c3 => ?_)
            · try simp only [↓str_beq_t, ↓str_beq_f, decide_eq_true_eq, decide_eq_false_iff_not, Bool.not_eq_true', Bool.not_eq_false', Int.not_lt, Int.not_le, beq_iff_eq, beq_eq_false_iff_ne, bne_iff_ne, bne_eq_false_iff_eq, ne_eq] at c3
              have hfa : factB a = true := by assumption
              have hfb : factB b = true := by assumption
              have hE : ordE a b = 0 := by rw [ordE, hfa, hfb]; rfl
              have hN : ordN a b = ordF a b := by rw [ordN, hfa, hfb, ord_cmp hfa hfb]; rfl
              have hZ := cmpF_zero (a := a) (b := b) (fact_parts hfa).2.2
              rw [← ord_cmp hfa hfb, ← hN] at hZ
              have hda := (fact_parts hfa).2.2
              let bad : Int := 0
              let want : Int := ordF a b
              refine awp_drawG 10 mixed rfl rfl rfl rfl ?_
              first | refine MGo_c0 rfl (by decide) (.run rfl (stp_fieldAddr rfl fo_almagestlaw9_Ask_1 rfl)) ?_ | refine MGo_c0 rfl (by decide) (.run rfl (stp_fieldAddr_elp rfl fo_almagestlaw9_Ask_1 rfl)) ?_
              first | refine MGo_c0 rfl (by decide) (.run rfl (stp_load rfl tf_S_api_Fact rfl rfl rfl rfl rfl)) ?_ | refine MGo_c0 rfl (by decide) (.run rfl (stp_load_elp1 rfl tf_S_api_Fact rfl)) ?_ | refine MGo_c0 rfl (by decide) (.run rfl (stp_load_elpn rfl tf_S_api_Fact rfl rfl rfl)) ?_
              refine MGo_c0 rfl (by decide) (.run rfl (stp_move (.inl rfl) rfl)) ?_
              first | refine MGo_c0 rfl (by decide) (.run rfl (stp_indexAddr rfl sl_S_api_Fact rfl rfl (by omega) (ftDs_get ha))) ?_ | refine MGo_c0 rfl (by decide) (.run rfl (stp_indexAddr_rowd rfl sl_S_api_Fact rfl rfl rfl (by omega) (ftDs_get ha))) ?_ | refine MGo_c0 rfl (by decide) (.run rfl (stp_indexAddr_row rfl sl_S_api_Fact rfl rfl rfl (by omega) (ftDs_get ha) (by decide))) ?_
              first | refine MGo_c0 rfl (by decide) (.run rfl (stp_load_all rfl tf_api_Fact rfl rfl rfl rfl)) ?_ | refine MGo_c0 rfl (by decide) (.run rfl (stp_load rfl tf_api_Fact rfl rfl rfl rfl rfl)) ?_ | refine MGo_c0 rfl (by decide) (.run rfl (stp_load_elpa rfl tf_api_Fact rfl rfl)) ?_ | refine MGo_c0 rfl (by decide) (.run rfl (stp_load_elpn rfl tf_api_Fact rfl rfl rfl)) ?_
              first | refine MGo_c0 rfl (by decide) (.run rfl (stp_fieldAddr rfl fo_almagestlaw9_Ask_1 rfl)) ?_ | refine MGo_c0 rfl (by decide) (.run rfl (stp_fieldAddr_elp rfl fo_almagestlaw9_Ask_1 rfl)) ?_
              first | refine MGo_c0 rfl (by decide) (.run rfl (stp_load rfl tf_S_api_Fact rfl rfl rfl rfl rfl)) ?_ | refine MGo_c0 rfl (by decide) (.run rfl (stp_load_elp1 rfl tf_S_api_Fact rfl)) ?_ | refine MGo_c0 rfl (by decide) (.run rfl (stp_load_elpn rfl tf_S_api_Fact rfl rfl rfl)) ?_
              refine MGo_c0 rfl (by decide) (.run rfl (stp_move (.inl rfl) rfl)) ?_
              first | refine MGo_c0 rfl (by decide) (.run rfl (stp_indexAddr rfl sl_S_api_Fact rfl rfl (by omega) (ftDs_get hb))) ?_ | refine MGo_c0 rfl (by decide) (.run rfl (stp_indexAddr_rowd rfl sl_S_api_Fact rfl rfl rfl (by omega) (ftDs_get hb))) ?_ | refine MGo_c0 rfl (by decide) (.run rfl (stp_indexAddr_row rfl sl_S_api_Fact rfl rfl rfl (by omega) (ftDs_get hb) (by decide))) ?_
              first | refine MGo_c0 rfl (by decide) (.run rfl (stp_load_all rfl tf_api_Fact rfl rfl rfl rfl)) ?_ | refine MGo_c0 rfl (by decide) (.run rfl (stp_load rfl tf_api_Fact rfl rfl rfl rfl rfl)) ?_ | refine MGo_c0 rfl (by decide) (.run rfl (stp_load_elpa rfl tf_api_Fact rfl rfl)) ?_ | refine MGo_c0 rfl (by decide) (.run rfl (stp_load_elpn rfl tf_api_Fact rfl rfl rfl)) ?_
              refine MGo_nil ⟨rfl, rfl, ?_⟩
              refine awps_call (avs := [_, _]) true rfl rfl rfl (by decide) en_almagestref7_Order rfl rfl (rOrder_ok a b (fact_parts (by assumption)).2.2 wa wb) rfl rfl ?_
              refine awps_stp0 rfl rfl (by decide) (stp_move (.inr rfl) rfl) ?_
              refine awps_stp0 rfl rfl (by decide) (stp_move (.inr rfl) rfl) ?_
              refine awps_nil ?_
              refine thenQ_nil ?_
              refine awp_seq ?_
              rcases Bool.eq_false_or_eq_true ((ordE a b != bad)) with l75 | l75
              · have m75 := l75
                try simp only [↓str_beq_t, ↓str_beq_f, decide_eq_true_eq, decide_eq_false_iff_not, Bool.not_eq_true', Bool.not_eq_false', Int.not_lt, Int.not_le, beq_iff_eq, beq_eq_false_iff_ne, bne_iff_ne, bne_eq_false_iff_eq, ne_eq] at m75
                rw [hE] at l75; exact absurd l75 (by decide)
              have m75 := l75
              try simp only [↓str_beq_t, ↓str_beq_f, decide_eq_true_eq, decide_eq_false_iff_not, Bool.not_eq_true', Bool.not_eq_false', Int.not_lt, Int.not_le, beq_iff_eq, beq_eq_false_iff_ne, bne_iff_ne, bne_eq_false_iff_eq, ne_eq] at m75
              rcases Bool.eq_false_or_eq_true ((ordN a b != want)) with l79 | l79
              · have m79 := l79
                try simp only [↓str_beq_t, ↓str_beq_f, decide_eq_true_eq, decide_eq_false_iff_not, Bool.not_eq_true', Bool.not_eq_false', Int.not_lt, Int.not_le, beq_iff_eq, beq_eq_false_iff_ne, bne_iff_ne, bne_eq_false_iff_eq, ne_eq] at m79
                rw [hN] at l79; simp [want] at l79
              have m79 := l79
              try simp only [↓str_beq_t, ↓str_beq_f, decide_eq_true_eq, decide_eq_false_iff_not, Bool.not_eq_true', Bool.not_eq_false', Int.not_lt, Int.not_le, beq_iff_eq, beq_eq_false_iff_ne, bne_iff_ne, bne_eq_false_iff_eq, ne_eq] at m79
              rcases Bool.eq_false_or_eq_true ((bad == 0)) with l83 | l83
              · have m83 := l83
                try simp only [↓str_beq_t, ↓str_beq_f, decide_eq_true_eq, decide_eq_false_iff_not, Bool.not_eq_true', Bool.not_eq_false', Int.not_lt, Int.not_le, beq_iff_eq, beq_eq_false_iff_ne, bne_iff_ne, bne_eq_false_iff_eq, ne_eq] at m83
                refine awp_drawG 26 mixed rfl rfl rfl rfl ?_
                refine MGo_c0 rfl (by decide) (.run rfl (stp_move (.inl rfl) rfl)) ?_
                refine MGo_c0 rfl (by decide) (.run rfl (stp_call (avs := [_]) true rfl en_almagestlaw9_num rfl rfl (num9_ok _) (fun _ => rfl) rfl)) ?_
                refine MGo_c0 rfl (by decide) (.run rfl (stp_move (.inl rfl) rfl)) ?_
                refine MGo_c0 rfl (by decide) (.run rfl (stp_binI (r := .bool false) rfl rfl rfl (congrArg (fun b => some (Value.bool b)) l75))) ?_
                refine MGo_c0 rfl (by decide) (.run rfl (stp_move (.inl rfl) rfl)) ?_
                refine MGo_c0 rfl (by decide) (.want rfl rfl rfl (by decide) (stp_move (.inl rfl) rfl)) ?_
                refine MGo_c0 rfl (by decide) (.want rfl rfl rfl (by decide) (stp_move (.inl rfl) rfl)) ?_
                refine MGo_c0 rfl (by decide) (.want rfl rfl rfl (by decide) (stp_binI (r := .bool false) rfl rfl rfl (congrArg (fun b => some (Value.bool b)) l79))) ?_
                refine MGo_c0 rfl (by decide) (.run rfl (stp_pick rfl rfl rfl)) ?_
                refine MGo_c0 rfl (by decide) (.run rfl (stp_move (.inl rfl) rfl)) ?_
                refine MGo_c0 rfl (by decide) (.want rfl rfl rfl (by decide) (stp_move (.inl rfl) rfl)) ?_
                refine MGo_c0 rfl (by decide) (.want rfl rfl rfl (by decide) (stp_binI (r := .bool true) rfl rfl rfl (congrArg (fun b => some (Value.bool b)) l83))) ?_
                refine MGo_c0 rfl (by decide) (.want rfl rfl rfl (by decide) (stp_move (.inl rfl) rfl)) ?_
                refine MGo_c0 rfl (by decide) (.want rfl rfl rfl (by decide) (stp_move (.inl rfl) rfl)) ?_
                refine MGo_c0 rfl (by decide) (.want rfl rfl rfl (by decide) (stp_binI rfl rfl rfl rfl)) ?_
                first | refine MGo_c0 rfl (by decide) (.want rfl rfl rfl (by decide) (stp_fieldAddr rfl fo_almagestlaw9_Ask_1 rfl)) ?_ | refine MGo_c0 rfl (by decide) (.want rfl rfl rfl (by decide) (stp_fieldAddr_elp rfl fo_almagestlaw9_Ask_1 rfl)) ?_
                first | refine MGo_c0 rfl (by decide) (.want rfl rfl rfl (by decide) (stp_load rfl tf_S_api_Fact rfl rfl rfl rfl rfl)) ?_ | refine MGo_c0 rfl (by decide) (.want rfl rfl rfl (by decide) (stp_load_elp1 rfl tf_S_api_Fact rfl)) ?_ | refine MGo_c0 rfl (by decide) (.want rfl rfl rfl (by decide) (stp_load_elpn rfl tf_S_api_Fact rfl rfl rfl)) ?_
                refine MGo_c0 rfl (by decide) (.want rfl rfl rfl (by decide) (stp_move (.inl rfl) rfl)) ?_
                first | refine MGo_c0 rfl (by decide) (.want rfl rfl rfl (by decide) (stp_indexAddr rfl sl_S_api_Fact rfl rfl (by omega) (ftDs_get ha))) ?_ | refine MGo_c0 rfl (by decide) (.want rfl rfl rfl (by decide) (stp_indexAddr_rowd rfl sl_S_api_Fact rfl rfl rfl (by omega) (ftDs_get ha))) ?_ | refine MGo_c0 rfl (by decide) (.want rfl rfl rfl (by decide) (stp_indexAddr_row rfl sl_S_api_Fact rfl rfl rfl (by omega) (ftDs_get ha) (by decide))) ?_
                first | refine MGo_c0 rfl (by decide) (.want rfl rfl rfl (by decide) (stp_load_all rfl tf_api_Fact rfl rfl rfl rfl)) ?_ | refine MGo_c0 rfl (by decide) (.want rfl rfl rfl (by decide) (stp_load rfl tf_api_Fact rfl rfl rfl rfl rfl)) ?_ | refine MGo_c0 rfl (by decide) (.want rfl rfl rfl (by decide) (stp_load_elpa rfl tf_api_Fact rfl rfl)) ?_ | refine MGo_c0 rfl (by decide) (.want rfl rfl rfl (by decide) (stp_load_elpn rfl tf_api_Fact rfl rfl rfl)) ?_
                first | refine MGo_c0 rfl (by decide) (.want rfl rfl rfl (by decide) (stp_fieldAddr rfl fo_almagestlaw9_Ask_1 rfl)) ?_ | refine MGo_c0 rfl (by decide) (.want rfl rfl rfl (by decide) (stp_fieldAddr_elp rfl fo_almagestlaw9_Ask_1 rfl)) ?_
                first | refine MGo_c0 rfl (by decide) (.want rfl rfl rfl (by decide) (stp_load rfl tf_S_api_Fact rfl rfl rfl rfl rfl)) ?_ | refine MGo_c0 rfl (by decide) (.want rfl rfl rfl (by decide) (stp_load_elp1 rfl tf_S_api_Fact rfl)) ?_ | refine MGo_c0 rfl (by decide) (.want rfl rfl rfl (by decide) (stp_load_elpn rfl tf_S_api_Fact rfl rfl rfl)) ?_
                refine MGo_c0 rfl (by decide) (.want rfl rfl rfl (by decide) (stp_move (.inl rfl) rfl)) ?_
                first | refine MGo_c0 rfl (by decide) (.want rfl rfl rfl (by decide) (stp_indexAddr rfl sl_S_api_Fact rfl rfl (by omega) (ftDs_get hb))) ?_ | refine MGo_c0 rfl (by decide) (.want rfl rfl rfl (by decide) (stp_indexAddr_rowd rfl sl_S_api_Fact rfl rfl rfl (by omega) (ftDs_get hb))) ?_ | refine MGo_c0 rfl (by decide) (.want rfl rfl rfl (by decide) (stp_indexAddr_row rfl sl_S_api_Fact rfl rfl rfl (by omega) (ftDs_get hb) (by decide))) ?_
                first | refine MGo_c0 rfl (by decide) (.want rfl rfl rfl (by decide) (stp_load_all rfl tf_api_Fact rfl rfl rfl rfl)) ?_ | refine MGo_c0 rfl (by decide) (.want rfl rfl rfl (by decide) (stp_load rfl tf_api_Fact rfl rfl rfl rfl rfl)) ?_ | refine MGo_c0 rfl (by decide) (.want rfl rfl rfl (by decide) (stp_load_elpa rfl tf_api_Fact rfl rfl)) ?_ | refine MGo_c0 rfl (by decide) (.want rfl rfl rfl (by decide) (stp_load_elpn rfl tf_api_Fact rfl rfl rfl)) ?_
                refine MGo_c0 rfl (by decide) (.want rfl rfl rfl (by decide) (stp_call (avs := [_, _]) true rfl en_almagestref0_EqFact rfl rfl (EqFact_ok a b (by first | exact hda | exact absurd (show (1 : Int) = 0 from m83) (by decide)) wa wb) (fun _ => rfl) rfl)) ?_
                refine MGo_nil ⟨rfl, rfl, ?_⟩
                refine awps_g0 rfl rfl rfl (by decide) rfl (by decide) (stp_neB rfl ul_bool rfl rfl) ?_
                refine awps_g0 rfl rfl rfl (by decide) rfl (by decide) (stp_pick rfl rfl rfl) ?_
                refine awps_stp0 rfl rfl (by decide) (stp_pick rfl rfl rfl) ?_
                refine awps_nil ?_
                refine thenQ_nil ?_
                refine awp_cond rfl (fun c4 => ?_) (fun c4 => ?_)
                · try simp only [↓str_beq_t, ↓str_beq_f, decide_eq_true_eq, decide_eq_false_iff_not, Bool.not_eq_true', Bool.not_eq_false', Int.not_lt, Int.not_le, beq_iff_eq, beq_eq_false_iff_ne, bne_iff_ne, bne_eq_false_iff_eq, ne_eq] at c4
                  refine awp_seq ?_
                  refine awp_region ?_
                  refine awps_stp0 rfl rfl (by decide) (stp_move (.inr rfl) rfl) ?_
                  refine awps_nil ?_
                  refine thenQ_nil ?_
                  refine awp_ret ?_
                  refine inQ_ret (thenQ_ret (thenQ_ret (inQ_ret (inQ_ret (thenQ_ret (thenQ_ret (inQ_ret (thenQ_ret (?_)))))))))
                  -- leaf 0Fg16T1Tg27T2Tg53T3Tl75Fl79Fl83T4T
                  refine ret0 (noL hL) (.inl rfl) (resAs_tmp rfl (resAs_nil)) ?_ ?_
                  · rfl
                  first
                  | exact ⟨rfl, rfl⟩
                  | (exfalso; exact c4 (by rw [Bool.eq_iff_iff, beq_iff_eq]; exact hZ))
                  | (exfalso; exact absurd (show (1 : Int) = 0 from m83) (by decide))
                  | (exfalso; rw [show nameB ⟨#[97]⟩ = true by kernel_rfl] at g102; cases g102; done)
                  | trace_state
                try simp only [↓str_beq_t, ↓str_beq_f, decide_eq_true_eq, decide_eq_false_iff_not, Bool.not_eq_true', Bool.not_eq_false', Int.not_lt, Int.not_le, beq_iff_eq, beq_eq_false_iff_ne, bne_iff_ne, bne_eq_false_iff_eq, ne_eq] at c4
                refine awp_skip ?_
                refine inQ_nil ?_
                refine thenQ_nil ?_
                refine awp_region ?_
                refine awps_stp0 rfl rfl (by decide) (stp_move (.inl rfl) rfl) ?_
                refine awps_stp0 rfl rfl (by decide) (stp_add rfl rfl rfl (by omega)) ?_
                refine awps_stp0 rfl rfl (by decide) (stp_move (.inr rfl) rfl) ?_
                refine awps_nil ?_
                refine thenQ_nil ?_
                refine ⟨?_, ?_, ?_⟩
                · skip
                  omega
                · skip
                  trivial
                exact sub_re (SubT.cons (lk_eq rfl (by first | rfl | simp)) (SubT.cons (lk_eq rfl (by first | rfl | simp)) (SubT.cons (lk_eq rfl (by first | rfl | simp)) (SubT.nil)))) (SubO.cons (ok_eq rfl (by rfl)) (SubO.nil)) rfl rfl (noL' (noL hL) _)
              have m83 := l83
              try simp only [↓str_beq_t, ↓str_beq_f, decide_eq_true_eq, decide_eq_false_iff_not, Bool.not_eq_true', Bool.not_eq_false', Int.not_lt, Int.not_le, beq_iff_eq, beq_eq_false_iff_ne, bne_iff_ne, bne_eq_false_iff_eq, ne_eq] at m83
              refine awp_drawG 26 mixed rfl rfl rfl rfl ?_
              refine MGo_c0 rfl (by decide) (.run rfl (stp_move (.inl rfl) rfl)) ?_
              refine MGo_c0 rfl (by decide) (.run rfl (stp_call (avs := [_]) true rfl en_almagestlaw9_num rfl rfl (num9_ok _) (fun _ => rfl) rfl)) ?_
              refine MGo_c0 rfl (by decide) (.run rfl (stp_move (.inl rfl) rfl)) ?_
              refine MGo_c0 rfl (by decide) (.run rfl (stp_binI (r := .bool false) rfl rfl rfl (congrArg (fun b => some (Value.bool b)) l75))) ?_
              refine MGo_c0 rfl (by decide) (.run rfl (stp_move (.inl rfl) rfl)) ?_
              refine MGo_c0 rfl (by decide) (.want rfl rfl rfl (by decide) (stp_move (.inl rfl) rfl)) ?_
              refine MGo_c0 rfl (by decide) (.want rfl rfl rfl (by decide) (stp_move (.inl rfl) rfl)) ?_
              refine MGo_c0 rfl (by decide) (.want rfl rfl rfl (by decide) (stp_binI (r := .bool false) rfl rfl rfl (congrArg (fun b => some (Value.bool b)) l79))) ?_
              refine MGo_c0 rfl (by decide) (.run rfl (stp_pick rfl rfl rfl)) ?_
              refine MGo_c0 rfl (by decide) (.run rfl (stp_move (.inl rfl) rfl)) ?_
              refine MGo_c0 rfl (by decide) (.want rfl rfl rfl (by decide) (stp_move (.inl rfl) rfl)) ?_
              refine MGo_c0 rfl (by decide) (.want rfl rfl rfl (by decide) (stp_binI (r := .bool false) rfl rfl rfl (congrArg (fun b => some (Value.bool b)) l83))) ?_
              refine MGo_c0 rfl (by decide) (.want rfl rfl rfl (by decide) (stp_move (.inl rfl) rfl)) ?_
              refine MGo_c0 rfl (by decide) (.skip rfl rfl rfl (by decide) (by decide)) ?_
              refine MGo_c0 rfl (by decide) (.skip rfl rfl rfl (by decide) (by decide)) ?_
              refine MGo_c0 rfl (by decide) (.skip rfl rfl rfl (by decide) (by decide)) ?_
              refine MGo_c0 rfl (by decide) (.skip rfl rfl rfl (by decide) (by decide)) ?_
              refine MGo_c0 rfl (by decide) (.skip rfl rfl rfl (by decide) (by decide)) ?_
              refine MGo_c0 rfl (by decide) (.skip rfl rfl rfl (by decide) (by decide)) ?_
              refine MGo_c0 rfl (by decide) (.skip rfl rfl rfl (by decide) (by decide)) ?_
              refine MGo_c0 rfl (by decide) (.skip rfl rfl rfl (by decide) (by decide)) ?_
              refine MGo_c0 rfl (by decide) (.skip rfl rfl rfl (by decide) (by decide)) ?_
              refine MGo_c0 rfl (by decide) (.skip rfl rfl rfl (by decide) (by decide)) ?_
              refine MGo_c0 rfl (by decide) (.skip rfl rfl rfl (by decide) (by decide)) ?_
              refine MGo_c0 rfl (by decide) (.skip rfl rfl rfl (by decide) (by decide)) ?_
              refine MGo_c0 rfl (by decide) (.skip rfl rfl rfl (by decide) (by decide)) ?_
              refine MGo_nil ⟨rfl, rfl, ?_⟩
              refine awps_gs rfl rfl rfl rfl (by decide) rfl (by decide) ?_
              refine awps_g0 rfl rfl rfl (by decide) rfl (by decide) (stp_pick rfl rfl rfl) ?_
              refine awps_stp0 rfl rfl (by decide) (stp_pick rfl rfl rfl) ?_
              refine awps_nil ?_
              refine thenQ_nil ?_
              refine awp_condF rfl ?_
              refine awp_skip ?_
              refine inQ_nil ?_
              refine thenQ_nil ?_
              refine awp_region ?_
              refine awps_stp0 rfl rfl (by decide) (stp_move (.inl rfl) rfl) ?_
              refine awps_stp0 rfl rfl (by decide) (stp_add rfl rfl rfl (by omega)) ?_
              refine awps_stp0 rfl rfl (by decide) (stp_move (.inr rfl) rfl) ?_
              refine awps_nil ?_
              refine thenQ_nil ?_
              refine ⟨?_, ?_, ?_⟩
              · skip
                omega
              · skip
                trivial
              exact sub_re (SubT.cons (lk_eq rfl (by first | rfl | simp)) (SubT.cons (lk_eq rfl (by first | rfl | simp)) (SubT.cons (lk_eq rfl (by first | rfl | simp)) (SubT.nil)))) (SubO.cons (ok_eq rfl (by rfl)) (SubO.nil)) rfl rfl (noL' (noL hL) _)
            try simp only [↓str_beq_t, ↓str_beq_f, decide_eq_true_eq, decide_eq_false_iff_not, Bool.not_eq_true', Bool.not_eq_false', Int.not_lt, Int.not_le, beq_iff_eq, beq_eq_false_iff_ne, bne_iff_ne, bne_eq_false_iff_eq, ne_eq] at c3
            have hff : (factB a && factB b) = false := by simp_all
            have hE : ordE a b = 1 := by rw [ordE, hff]; rfl
            have hN : ordN a b = 0 := by rw [ordN, hff]; rfl
            let bad : Int := 1
            let want : Int := 0
            refine awp_skip ?_
            refine thenQ_nil ?_
            refine awp_seq ?_
            rcases Bool.eq_false_or_eq_true ((ordE a b != bad)) with l75 | l75
            · have m75 := l75
              try simp only [↓str_beq_t, ↓str_beq_f, decide_eq_true_eq, decide_eq_false_iff_not, Bool.not_eq_true', Bool.not_eq_false', Int.not_lt, Int.not_le, beq_iff_eq, beq_eq_false_iff_ne, bne_iff_ne, bne_eq_false_iff_eq, ne_eq] at m75
              rw [hE] at l75; exact absurd l75 (by decide)
            have m75 := l75
            try simp only [↓str_beq_t, ↓str_beq_f, decide_eq_true_eq, decide_eq_false_iff_not, Bool.not_eq_true', Bool.not_eq_false', Int.not_lt, Int.not_le, beq_iff_eq, beq_eq_false_iff_ne, bne_iff_ne, bne_eq_false_iff_eq, ne_eq] at m75
            rcases Bool.eq_false_or_eq_true ((ordN a b != want)) with l79 | l79
            · have m79 := l79
              try simp only [↓str_beq_t, ↓str_beq_f, decide_eq_true_eq, decide_eq_false_iff_not, Bool.not_eq_true', Bool.not_eq_false', Int.not_lt, Int.not_le, beq_iff_eq, beq_eq_false_iff_ne, bne_iff_ne, bne_eq_false_iff_eq, ne_eq] at m79
              rw [hN] at l79; simp [want] at l79
            have m79 := l79
            try simp only [↓str_beq_t, ↓str_beq_f, decide_eq_true_eq, decide_eq_false_iff_not, Bool.not_eq_true', Bool.not_eq_false', Int.not_lt, Int.not_le, beq_iff_eq, beq_eq_false_iff_ne, bne_iff_ne, bne_eq_false_iff_eq, ne_eq] at m79
            rcases Bool.eq_false_or_eq_true ((bad == 0)) with l83 | l83
            · have m83 := l83
              try simp only [↓str_beq_t, ↓str_beq_f, decide_eq_true_eq, decide_eq_false_iff_not, Bool.not_eq_true', Bool.not_eq_false', Int.not_lt, Int.not_le, beq_iff_eq, beq_eq_false_iff_ne, bne_iff_ne, bne_eq_false_iff_eq, ne_eq] at m83
              refine awp_drawG 26 mixed rfl rfl rfl rfl ?_
              refine MGo_c0 rfl (by decide) (.run rfl (stp_move (.inl rfl) rfl)) ?_
              refine MGo_c0 rfl (by decide) (.run rfl (stp_call (avs := [_]) true rfl en_almagestlaw9_num rfl rfl (num9_ok _) (fun _ => rfl) rfl)) ?_
              refine MGo_c0 rfl (by decide) (.run rfl (stp_move (.inl rfl) rfl)) ?_
              refine MGo_c0 rfl (by decide) (.run rfl (stp_binI (r := .bool false) rfl rfl rfl (congrArg (fun b => some (Value.bool b)) l75))) ?_
              refine MGo_c0 rfl (by decide) (.run rfl (stp_move (.inl rfl) rfl)) ?_
              refine MGo_c0 rfl (by decide) (.want rfl rfl rfl (by decide) (stp_move (.inl rfl) rfl)) ?_
              refine MGo_c0 rfl (by decide) (.want rfl rfl rfl (by decide) (stp_move (.inl rfl) rfl)) ?_
              refine MGo_c0 rfl (by decide) (.want rfl rfl rfl (by decide) (stp_binI (r := .bool false) rfl rfl rfl (congrArg (fun b => some (Value.bool b)) l79))) ?_
              refine MGo_c0 rfl (by decide) (.run rfl (stp_pick rfl rfl rfl)) ?_
              refine MGo_c0 rfl (by decide) (.run rfl (stp_move (.inl rfl) rfl)) ?_
              refine MGo_c0 rfl (by decide) (.want rfl rfl rfl (by decide) (stp_move (.inl rfl) rfl)) ?_
              refine MGo_c0 rfl (by decide) (.want rfl rfl rfl (by decide) (stp_binI (r := .bool true) rfl rfl rfl (congrArg (fun b => some (Value.bool b)) l83))) ?_
              refine MGo_c0 rfl (by decide) (.want rfl rfl rfl (by decide) (stp_move (.inl rfl) rfl)) ?_
              refine MGo_c0 rfl (by decide) (.want rfl rfl rfl (by decide) (stp_move (.inl rfl) rfl)) ?_
              refine MGo_c0 rfl (by decide) (.want rfl rfl rfl (by decide) (stp_binI rfl rfl rfl rfl)) ?_
              first | refine MGo_c0 rfl (by decide) (.want rfl rfl rfl (by decide) (stp_fieldAddr rfl fo_almagestlaw9_Ask_1 rfl)) ?_ | refine MGo_c0 rfl (by decide) (.want rfl rfl rfl (by decide) (stp_fieldAddr_elp rfl fo_almagestlaw9_Ask_1 rfl)) ?_
              first | refine MGo_c0 rfl (by decide) (.want rfl rfl rfl (by decide) (stp_load rfl tf_S_api_Fact rfl rfl rfl rfl rfl)) ?_ | refine MGo_c0 rfl (by decide) (.want rfl rfl rfl (by decide) (stp_load_elp1 rfl tf_S_api_Fact rfl)) ?_ | refine MGo_c0 rfl (by decide) (.want rfl rfl rfl (by decide) (stp_load_elpn rfl tf_S_api_Fact rfl rfl rfl)) ?_
              refine MGo_c0 rfl (by decide) (.want rfl rfl rfl (by decide) (stp_move (.inl rfl) rfl)) ?_
              first | refine MGo_c0 rfl (by decide) (.want rfl rfl rfl (by decide) (stp_indexAddr rfl sl_S_api_Fact rfl rfl (by omega) (ftDs_get ha))) ?_ | refine MGo_c0 rfl (by decide) (.want rfl rfl rfl (by decide) (stp_indexAddr_rowd rfl sl_S_api_Fact rfl rfl rfl (by omega) (ftDs_get ha))) ?_ | refine MGo_c0 rfl (by decide) (.want rfl rfl rfl (by decide) (stp_indexAddr_row rfl sl_S_api_Fact rfl rfl rfl (by omega) (ftDs_get ha) (by decide))) ?_
              first | refine MGo_c0 rfl (by decide) (.want rfl rfl rfl (by decide) (stp_load_all rfl tf_api_Fact rfl rfl rfl rfl)) ?_ | refine MGo_c0 rfl (by decide) (.want rfl rfl rfl (by decide) (stp_load rfl tf_api_Fact rfl rfl rfl rfl rfl)) ?_ | refine MGo_c0 rfl (by decide) (.want rfl rfl rfl (by decide) (stp_load_elpa rfl tf_api_Fact rfl rfl)) ?_ | refine MGo_c0 rfl (by decide) (.want rfl rfl rfl (by decide) (stp_load_elpn rfl tf_api_Fact rfl rfl rfl)) ?_
              first | refine MGo_c0 rfl (by decide) (.want rfl rfl rfl (by decide) (stp_fieldAddr rfl fo_almagestlaw9_Ask_1 rfl)) ?_ | refine MGo_c0 rfl (by decide) (.want rfl rfl rfl (by decide) (stp_fieldAddr_elp rfl fo_almagestlaw9_Ask_1 rfl)) ?_
              first | refine MGo_c0 rfl (by decide) (.want rfl rfl rfl (by decide) (stp_load rfl tf_S_api_Fact rfl rfl rfl rfl rfl)) ?_ | refine MGo_c0 rfl (by decide) (.want rfl rfl rfl (by decide) (stp_load_elp1 rfl tf_S_api_Fact rfl)) ?_ | refine MGo_c0 rfl (by decide) (.want rfl rfl rfl (by decide) (stp_load_elpn rfl tf_S_api_Fact rfl rfl rfl)) ?_
              refine MGo_c0 rfl (by decide) (.want rfl rfl rfl (by decide) (stp_move (.inl rfl) rfl)) ?_
              first | refine MGo_c0 rfl (by decide) (.want rfl rfl rfl (by decide) (stp_indexAddr rfl sl_S_api_Fact rfl rfl (by omega) (ftDs_get hb))) ?_ | refine MGo_c0 rfl (by decide) (.want rfl rfl rfl (by decide) (stp_indexAddr_rowd rfl sl_S_api_Fact rfl rfl rfl (by omega) (ftDs_get hb))) ?_ | refine MGo_c0 rfl (by decide) (.want rfl rfl rfl (by decide) (stp_indexAddr_row rfl sl_S_api_Fact rfl rfl rfl (by omega) (ftDs_get hb) (by decide))) ?_
              first | refine MGo_c0 rfl (by decide) (.want rfl rfl rfl (by decide) (stp_load_all rfl tf_api_Fact rfl rfl rfl rfl)) ?_ | refine MGo_c0 rfl (by decide) (.want rfl rfl rfl (by decide) (stp_load rfl tf_api_Fact rfl rfl rfl rfl rfl)) ?_ | refine MGo_c0 rfl (by decide) (.want rfl rfl rfl (by decide) (stp_load_elpa rfl tf_api_Fact rfl rfl)) ?_ | refine MGo_c0 rfl (by decide) (.want rfl rfl rfl (by decide) (stp_load_elpn rfl tf_api_Fact rfl rfl rfl)) ?_
              refine MGo_c0 rfl (by decide) (.want rfl rfl rfl (by decide) (stp_call (avs := [_, _]) true rfl en_almagestref0_EqFact rfl rfl (EqFact_ok a b (by first | exact hda | exact absurd (show (1 : Int) = 0 from m83) (by decide)) wa wb) (fun _ => rfl) rfl)) ?_
              refine MGo_nil ⟨rfl, rfl, ?_⟩
              refine awps_g0 rfl rfl rfl (by decide) rfl (by decide) (stp_neB rfl ul_bool rfl rfl) ?_
              refine awps_g0 rfl rfl rfl (by decide) rfl (by decide) (stp_pick rfl rfl rfl) ?_
              refine awps_stp0 rfl rfl (by decide) (stp_pick rfl rfl rfl) ?_
              refine awps_nil ?_
              refine thenQ_nil ?_
              refine awp_cond rfl (fun c4 => ?_) (fun c4 => ?_)
              · try simp only [↓str_beq_t, ↓str_beq_f, decide_eq_true_eq, decide_eq_false_iff_not, Bool.not_eq_true', Bool.not_eq_false', Int.not_lt, Int.not_le, beq_iff_eq, beq_eq_false_iff_ne, bne_iff_ne, bne_eq_false_iff_eq, ne_eq] at c4
                refine awp_seq ?_
                refine awp_region ?_
                refine awps_stp0 rfl rfl (by decide) (stp_move (.inr rfl) rfl) ?_
                refine awps_nil ?_
                refine thenQ_nil ?_
                refine awp_ret ?_
                refine inQ_ret (thenQ_ret (thenQ_ret (inQ_ret (inQ_ret (thenQ_ret (thenQ_ret (inQ_ret (thenQ_ret (?_)))))))))
                -- leaf 0Fg16T1Tg27T2Tg53T3Fl75Fl79Fl83T4T
                refine ret0 (noL hL) (.inl rfl) (resAs_tmp rfl (resAs_nil)) ?_ ?_
                · rfl
                first
                | exact ⟨rfl, rfl⟩
                | (exfalso; exact c4 (by rw [Bool.eq_iff_iff, beq_iff_eq]; exact hZ))
                | (exfalso; exact absurd (show (1 : Int) = 0 from m83) (by decide))
                | (exfalso; rw [show nameB ⟨#[97]⟩ = true by kernel_rfl] at g102; cases g102; done)
                | trace_state
              try simp only [↓str_beq_t, ↓str_beq_f, decide_eq_true_eq, decide_eq_false_iff_not, Bool.not_eq_true', Bool.not_eq_false', Int.not_lt, Int.not_le, beq_iff_eq, beq_eq_false_iff_ne, bne_iff_ne, bne_eq_false_iff_eq, ne_eq] at c4
              refine awp_skip ?_
              refine inQ_nil ?_
              refine thenQ_nil ?_
              refine awp_region ?_
              refine awps_stp0 rfl rfl (by decide) (stp_move (.inl rfl) rfl) ?_
              refine awps_stp0 rfl rfl (by decide) (stp_add rfl rfl rfl (by omega)) ?_
              refine awps_stp0 rfl rfl (by decide) (stp_move (.inr rfl) rfl) ?_
              refine awps_nil ?_
              refine thenQ_nil ?_
              refine ⟨?_, ?_, ?_⟩
              · skip
                omega
              · skip
                trivial
              exact sub_re (SubT.cons (lk_eq rfl (by first | rfl | simp)) (SubT.cons (lk_eq rfl (by first | rfl | simp)) (SubT.cons (lk_eq rfl (by first | rfl | simp)) (SubT.nil)))) (SubO.cons (ok_eq rfl (by rfl)) (SubO.nil)) rfl rfl (noL' (noL hL) _)
            have m83 := l83
            try simp only [↓str_beq_t, ↓str_beq_f, decide_eq_true_eq, decide_eq_false_iff_not, Bool.not_eq_true', Bool.not_eq_false', Int.not_lt, Int.not_le, beq_iff_eq, beq_eq_false_iff_ne, bne_iff_ne, bne_eq_false_iff_eq, ne_eq] at m83
            refine awp_drawG 26 mixed rfl rfl rfl rfl ?_
            refine MGo_c0 rfl (by decide) (.run rfl (stp_move (.inl rfl) rfl)) ?_
            refine MGo_c0 rfl (by decide) (.run rfl (stp_call (avs := [_]) true rfl en_almagestlaw9_num rfl rfl (num9_ok _) (fun _ => rfl) rfl)) ?_
            refine MGo_c0 rfl (by decide) (.run rfl (stp_move (.inl rfl) rfl)) ?_
            refine MGo_c0 rfl (by decide) (.run rfl (stp_binI (r := .bool false) rfl rfl rfl (congrArg (fun b => some (Value.bool b)) l75))) ?_
            refine MGo_c0 rfl (by decide) (.run rfl (stp_move (.inl rfl) rfl)) ?_
            refine MGo_c0 rfl (by decide) (.want rfl rfl rfl (by decide) (stp_move (.inl rfl) rfl)) ?_
            refine MGo_c0 rfl (by decide) (.want rfl rfl rfl (by decide) (stp_move (.inl rfl) rfl)) ?_
            refine MGo_c0 rfl (by decide) (.want rfl rfl rfl (by decide) (stp_binI (r := .bool false) rfl rfl rfl (congrArg (fun b => some (Value.bool b)) l79))) ?_
            refine MGo_c0 rfl (by decide) (.run rfl (stp_pick rfl rfl rfl)) ?_
            refine MGo_c0 rfl (by decide) (.run rfl (stp_move (.inl rfl) rfl)) ?_
            refine MGo_c0 rfl (by decide) (.want rfl rfl rfl (by decide) (stp_move (.inl rfl) rfl)) ?_
            refine MGo_c0 rfl (by decide) (.want rfl rfl rfl (by decide) (stp_binI (r := .bool false) rfl rfl rfl (congrArg (fun b => some (Value.bool b)) l83))) ?_
            refine MGo_c0 rfl (by decide) (.want rfl rfl rfl (by decide) (stp_move (.inl rfl) rfl)) ?_
            refine MGo_c0 rfl (by decide) (.skip rfl rfl rfl (by decide) (by decide)) ?_
            refine MGo_c0 rfl (by decide) (.skip rfl rfl rfl (by decide) (by decide)) ?_
            refine MGo_c0 rfl (by decide) (.skip rfl rfl rfl (by decide) (by decide)) ?_
            refine MGo_c0 rfl (by decide) (.skip rfl rfl rfl (by decide) (by decide)) ?_
            refine MGo_c0 rfl (by decide) (.skip rfl rfl rfl (by decide) (by decide)) ?_
            refine MGo_c0 rfl (by decide) (.skip rfl rfl rfl (by decide) (by decide)) ?_
            refine MGo_c0 rfl (by decide) (.skip rfl rfl rfl (by decide) (by decide)) ?_
            refine MGo_c0 rfl (by decide) (.skip rfl rfl rfl (by decide) (by decide)) ?_
            refine MGo_c0 rfl (by decide) (.skip rfl rfl rfl (by decide) (by decide)) ?_
            refine MGo_c0 rfl (by decide) (.skip rfl rfl rfl (by decide) (by decide)) ?_
            refine MGo_c0 rfl (by decide) (.skip rfl rfl rfl (by decide) (by decide)) ?_
            refine MGo_c0 rfl (by decide) (.skip rfl rfl rfl (by decide) (by decide)) ?_
            refine MGo_c0 rfl (by decide) (.skip rfl rfl rfl (by decide) (by decide)) ?_
            refine MGo_nil ⟨rfl, rfl, ?_⟩
            refine awps_gs rfl rfl rfl rfl (by decide) rfl (by decide) ?_
            refine awps_g0 rfl rfl rfl (by decide) rfl (by decide) (stp_pick rfl rfl rfl) ?_
            refine awps_stp0 rfl rfl (by decide) (stp_pick rfl rfl rfl) ?_
            refine awps_nil ?_
            refine thenQ_nil ?_
            refine awp_condF rfl ?_
            refine awp_skip ?_
            refine inQ_nil ?_
            refine thenQ_nil ?_
            refine awp_region ?_
            refine awps_stp0 rfl rfl (by decide) (stp_move (.inl rfl) rfl) ?_
            refine awps_stp0 rfl rfl (by decide) (stp_add rfl rfl rfl (by omega)) ?_
            refine awps_stp0 rfl rfl (by decide) (stp_move (.inr rfl) rfl) ?_
            refine awps_nil ?_
            refine thenQ_nil ?_
            refine ⟨?_, ?_, ?_⟩
            · skip
              omega
            · skip
              trivial
            exact sub_re (SubT.cons (lk_eq rfl (by first | rfl | simp)) (SubT.cons (lk_eq rfl (by first | rfl | simp)) (SubT.cons (lk_eq rfl (by first | rfl | simp)) (SubT.nil)))) (SubO.cons (ok_eq rfl (by rfl)) (SubO.nil)) rfl rfl (noL' (noL hL) _)
          try simp only [↓str_beq_t, ↓str_beq_f, decide_eq_true_eq, decide_eq_false_iff_not, Bool.not_eq_true', Bool.not_eq_false', Int.not_lt, Int.not_le, beq_iff_eq, beq_eq_false_iff_ne, bne_iff_ne, bne_eq_false_iff_eq, ne_eq] at g53
          have hff : (factB a && factB b) = false := by simp_all
          have hE : ordE a b = 1 := by rw [ordE, hff]; rfl
          have hN : ordN a b = 0 := by rw [ordN, hff]; rfl
          let bad : Int := 1
          let want : Int := 0
          refine awps_gs rfl rfl rfl rfl (by decide) rfl (by decide) ?_
          refine awps_gs rfl rfl rfl rfl (by decide) rfl (by decide) ?_
          refine awps_gs rfl rfl rfl rfl (by decide) rfl (by decide) ?_
          refine awps_gs rfl rfl rfl rfl (by decide) rfl (by decide) ?_
          refine awps_gs rfl rfl rfl rfl (by decide) rfl (by decide) ?_
          refine awps_gs rfl rfl rfl rfl (by decide) rfl (by decide) ?_
          refine awps_stp0 rfl rfl (by decide) (stp_pick rfl rfl rfl) ?_
          refine awps_nil ?_
          refine thenQ_nil ?_
          refine awp_condF rfl ?_
          refine awp_skip ?_
          refine thenQ_nil ?_
          refine awp_seq ?_
          rcases Bool.eq_false_or_eq_true ((ordE a b != bad)) with l75 | l75
          · have m75 := l75
            try simp only [↓str_beq_t, ↓str_beq_f, decide_eq_true_eq, decide_eq_false_iff_not, Bool.not_eq_true', Bool.not_eq_false', Int.not_lt, Int.not_le, beq_iff_eq, beq_eq_false_iff_ne, bne_iff_ne, bne_eq_false_iff_eq, ne_eq] at m75
            rw [hE] at l75; exact absurd l75 (by decide)
          have m75 := l75
          try simp only [↓str_beq_t, ↓str_beq_f, decide_eq_true_eq, decide_eq_false_iff_not, Bool.not_eq_true', Bool.not_eq_false', Int.not_lt, Int.not_le, beq_iff_eq, beq_eq_false_iff_ne, bne_iff_ne, bne_eq_false_iff_eq, ne_eq] at m75
          rcases Bool.eq_false_or_eq_true ((ordN a b != want)) with l79 | l79
          · have m79 := l79
            try simp only [↓str_beq_t, ↓str_beq_f, decide_eq_true_eq, decide_eq_false_iff_not, Bool.not_eq_true', Bool.not_eq_false', Int.not_lt, Int.not_le, beq_iff_eq, beq_eq_false_iff_ne, bne_iff_ne, bne_eq_false_iff_eq, ne_eq] at m79
            rw [hN] at l79; simp [want] at l79
          have m79 := l79
          try simp only [↓str_beq_t, ↓str_beq_f, decide_eq_true_eq, decide_eq_false_iff_not, Bool.not_eq_true', Bool.not_eq_false', Int.not_lt, Int.not_le, beq_iff_eq, beq_eq_false_iff_ne, bne_iff_ne, bne_eq_false_iff_eq, ne_eq] at m79
          rcases Bool.eq_false_or_eq_true ((bad == 0)) with l83 | l83
          · have m83 := l83
            try simp only [↓str_beq_t, ↓str_beq_f, decide_eq_true_eq, decide_eq_false_iff_not, Bool.not_eq_true', Bool.not_eq_false', Int.not_lt, Int.not_le, beq_iff_eq, beq_eq_false_iff_ne, bne_iff_ne, bne_eq_false_iff_eq, ne_eq] at m83
            refine awp_drawG 26 mixed rfl rfl rfl rfl ?_
            refine MGo_c0 rfl (by decide) (.run rfl (stp_move (.inl rfl) rfl)) ?_
            refine MGo_c0 rfl (by decide) (.run rfl (stp_call (avs := [_]) true rfl en_almagestlaw9_num rfl rfl (num9_ok _) (fun _ => rfl) rfl)) ?_
            refine MGo_c0 rfl (by decide) (.run rfl (stp_move (.inl rfl) rfl)) ?_
            refine MGo_c0 rfl (by decide) (.run rfl (stp_binI (r := .bool false) rfl rfl rfl (congrArg (fun b => some (Value.bool b)) l75))) ?_
            refine MGo_c0 rfl (by decide) (.run rfl (stp_move (.inl rfl) rfl)) ?_
            refine MGo_c0 rfl (by decide) (.want rfl rfl rfl (by decide) (stp_move (.inl rfl) rfl)) ?_
            refine MGo_c0 rfl (by decide) (.want rfl rfl rfl (by decide) (stp_move (.inl rfl) rfl)) ?_
            refine MGo_c0 rfl (by decide) (.want rfl rfl rfl (by decide) (stp_binI (r := .bool false) rfl rfl rfl (congrArg (fun b => some (Value.bool b)) l79))) ?_
            refine MGo_c0 rfl (by decide) (.run rfl (stp_pick rfl rfl rfl)) ?_
            refine MGo_c0 rfl (by decide) (.run rfl (stp_move (.inl rfl) rfl)) ?_
            refine MGo_c0 rfl (by decide) (.want rfl rfl rfl (by decide) (stp_move (.inl rfl) rfl)) ?_
            refine MGo_c0 rfl (by decide) (.want rfl rfl rfl (by decide) (stp_binI (r := .bool true) rfl rfl rfl (congrArg (fun b => some (Value.bool b)) l83))) ?_
            refine MGo_c0 rfl (by decide) (.want rfl rfl rfl (by decide) (stp_move (.inl rfl) rfl)) ?_
            refine MGo_c0 rfl (by decide) (.want rfl rfl rfl (by decide) (stp_move (.inl rfl) rfl)) ?_
            refine MGo_c0 rfl (by decide) (.want rfl rfl rfl (by decide) (stp_binI rfl rfl rfl rfl)) ?_
            first | refine MGo_c0 rfl (by decide) (.want rfl rfl rfl (by decide) (stp_fieldAddr rfl fo_almagestlaw9_Ask_1 rfl)) ?_ | refine MGo_c0 rfl (by decide) (.want rfl rfl rfl (by decide) (stp_fieldAddr_elp rfl fo_almagestlaw9_Ask_1 rfl)) ?_
            first | refine MGo_c0 rfl (by decide) (.want rfl rfl rfl (by decide) (stp_load rfl tf_S_api_Fact rfl rfl rfl rfl rfl)) ?_ | refine MGo_c0 rfl (by decide) (.want rfl rfl rfl (by decide) (stp_load_elp1 rfl tf_S_api_Fact rfl)) ?_ | refine MGo_c0 rfl (by decide) (.want rfl rfl rfl (by decide) (stp_load_elpn rfl tf_S_api_Fact rfl rfl rfl)) ?_
            refine MGo_c0 rfl (by decide) (.want rfl rfl rfl (by decide) (stp_move (.inl rfl) rfl)) ?_
            first | refine MGo_c0 rfl (by decide) (.want rfl rfl rfl (by decide) (stp_indexAddr rfl sl_S_api_Fact rfl rfl (by omega) (ftDs_get ha))) ?_ | refine MGo_c0 rfl (by decide) (.want rfl rfl rfl (by decide) (stp_indexAddr_rowd rfl sl_S_api_Fact rfl rfl rfl (by omega) (ftDs_get ha))) ?_ | refine MGo_c0 rfl (by decide) (.want rfl rfl rfl (by decide) (stp_indexAddr_row rfl sl_S_api_Fact rfl rfl rfl (by omega) (ftDs_get ha) (by decide))) ?_
            first | refine MGo_c0 rfl (by decide) (.want rfl rfl rfl (by decide) (stp_load_all rfl tf_api_Fact rfl rfl rfl rfl)) ?_ | refine MGo_c0 rfl (by decide) (.want rfl rfl rfl (by decide) (stp_load rfl tf_api_Fact rfl rfl rfl rfl rfl)) ?_ | refine MGo_c0 rfl (by decide) (.want rfl rfl rfl (by decide) (stp_load_elpa rfl tf_api_Fact rfl rfl)) ?_ | refine MGo_c0 rfl (by decide) (.want rfl rfl rfl (by decide) (stp_load_elpn rfl tf_api_Fact rfl rfl rfl)) ?_
            first | refine MGo_c0 rfl (by decide) (.want rfl rfl rfl (by decide) (stp_fieldAddr rfl fo_almagestlaw9_Ask_1 rfl)) ?_ | refine MGo_c0 rfl (by decide) (.want rfl rfl rfl (by decide) (stp_fieldAddr_elp rfl fo_almagestlaw9_Ask_1 rfl)) ?_
            first | refine MGo_c0 rfl (by decide) (.want rfl rfl rfl (by decide) (stp_load rfl tf_S_api_Fact rfl rfl rfl rfl rfl)) ?_ | refine MGo_c0 rfl (by decide) (.want rfl rfl rfl (by decide) (stp_load_elp1 rfl tf_S_api_Fact rfl)) ?_ | refine MGo_c0 rfl (by decide) (.want rfl rfl rfl (by decide) (stp_load_elpn rfl tf_S_api_Fact rfl rfl rfl)) ?_
            refine MGo_c0 rfl (by decide) (.want rfl rfl rfl (by decide) (stp_move (.inl rfl) rfl)) ?_
            first | refine MGo_c0 rfl (by decide) (.want rfl rfl rfl (by decide) (stp_indexAddr rfl sl_S_api_Fact rfl rfl (by omega) (ftDs_get hb))) ?_ | refine MGo_c0 rfl (by decide) (.want rfl rfl rfl (by decide) (stp_indexAddr_rowd rfl sl_S_api_Fact rfl rfl rfl (by omega) (ftDs_get hb))) ?_ | refine MGo_c0 rfl (by decide) (.want rfl rfl rfl (by decide) (stp_indexAddr_row rfl sl_S_api_Fact rfl rfl rfl (by omega) (ftDs_get hb) (by decide))) ?_
            first | refine MGo_c0 rfl (by decide) (.want rfl rfl rfl (by decide) (stp_load_all rfl tf_api_Fact rfl rfl rfl rfl)) ?_ | refine MGo_c0 rfl (by decide) (.want rfl rfl rfl (by decide) (stp_load rfl tf_api_Fact rfl rfl rfl rfl rfl)) ?_ | refine MGo_c0 rfl (by decide) (.want rfl rfl rfl (by decide) (stp_load_elpa rfl tf_api_Fact rfl rfl)) ?_ | refine MGo_c0 rfl (by decide) (.want rfl rfl rfl (by decide) (stp_load_elpn rfl tf_api_Fact rfl rfl rfl)) ?_
            refine MGo_c0 rfl (by decide) (.want rfl rfl rfl (by decide) (stp_call (avs := [_, _]) true rfl en_almagestref0_EqFact rfl rfl (EqFact_ok a b (by first | exact hda | exact absurd (show (1 : Int) = 0 from m83) (by decide)) wa wb) (fun _ => rfl) rfl)) ?_
            refine MGo_nil ⟨rfl, rfl, ?_⟩
            refine awps_g0 rfl rfl rfl (by decide) rfl (by decide) (stp_neB rfl ul_bool rfl rfl) ?_
            refine awps_g0 rfl rfl rfl (by decide) rfl (by decide) (stp_pick rfl rfl rfl) ?_
            refine awps_stp0 rfl rfl (by decide) (stp_pick rfl rfl rfl) ?_
            refine awps_nil ?_
            refine thenQ_nil ?_
            refine awp_cond rfl (fun c4 => ?_) (fun c4 => ?_)
            · try simp only [↓str_beq_t, ↓str_beq_f, decide_eq_true_eq, decide_eq_false_iff_not, Bool.not_eq_true', Bool.not_eq_false', Int.not_lt, Int.not_le, beq_iff_eq, beq_eq_false_iff_ne, bne_iff_ne, bne_eq_false_iff_eq, ne_eq] at c4
              refine awp_seq ?_
              refine awp_region ?_
              refine awps_stp0 rfl rfl (by decide) (stp_move (.inr rfl) rfl) ?_
              refine awps_nil ?_
              refine thenQ_nil ?_
              refine awp_ret ?_
              refine inQ_ret (thenQ_ret (thenQ_ret (inQ_ret (inQ_ret (thenQ_ret (thenQ_ret (inQ_ret (thenQ_ret (?_)))))))))
              -- leaf 0Fg16T1Tg27T2Tg53Fl75Fl79Fl83T4T
              refine ret0 (noL hL) (.inl rfl) (resAs_tmp rfl (resAs_nil)) ?_ ?_
              · rfl
              first
              | exact ⟨rfl, rfl⟩
              | (exfalso; exact c4 (by rw [Bool.eq_iff_iff, beq_iff_eq]; exact hZ))
              | (exfalso; exact absurd (show (1 : Int) = 0 from m83) (by decide))
              | (exfalso; rw [show nameB ⟨#[97]⟩ = true by kernel_rfl] at g102; cases g102; done)
              | trace_state
            try simp only [↓str_beq_t, ↓str_beq_f, decide_eq_true_eq, decide_eq_false_iff_not, Bool.not_eq_true', Bool.not_eq_false', Int.not_lt, Int.not_le, beq_iff_eq, beq_eq_false_iff_ne, bne_iff_ne, bne_eq_false_iff_eq, ne_eq] at c4
            refine awp_skip ?_
            refine inQ_nil ?_
            refine thenQ_nil ?_
            refine awp_region ?_
            refine awps_stp0 rfl rfl (by decide) (stp_move (.inl rfl) rfl) ?_
            refine awps_stp0 rfl rfl (by decide) (stp_add rfl rfl rfl (by omega)) ?_
            refine awps_stp0 rfl rfl (by decide) (stp_move (.inr rfl) rfl) ?_
            refine awps_nil ?_
            refine thenQ_nil ?_
            refine ⟨?_, ?_, ?_⟩
            · skip
              omega
            · skip
              trivial
            exact sub_re (SubT.cons (lk_eq rfl (by first | rfl | simp)) (SubT.cons (lk_eq rfl (by first | rfl | simp)) (SubT.cons (lk_eq rfl (by first | rfl | simp)) (SubT.nil)))) (SubO.cons (ok_eq rfl (by rfl)) (SubO.nil)) rfl rfl (noL' (noL hL) _)
          have m83 := l83
          try simp only [↓str_beq_t, ↓str_beq_f, decide_eq_true_eq, decide_eq_false_iff_not, Bool.not_eq_true', Bool.not_eq_false', Int.not_lt, Int.not_le, beq_iff_eq, beq_eq_false_iff_ne, bne_iff_ne, bne_eq_false_iff_eq, ne_eq] at m83
          refine awp_drawG 26 mixed rfl rfl rfl rfl ?_
          refine MGo_c0 rfl (by decide) (.run rfl (stp_move (.inl rfl) rfl)) ?_
          refine MGo_c0 rfl (by decide) (.run rfl (stp_call (avs := [_]) true rfl en_almagestlaw9_num rfl rfl (num9_ok _) (fun _ => rfl) rfl)) ?_
          refine MGo_c0 rfl (by decide) (.run rfl (stp_move (.inl rfl) rfl)) ?_
          refine MGo_c0 rfl (by decide) (.run rfl (stp_binI (r := .bool false) rfl rfl rfl (congrArg (fun b => some (Value.bool b)) l75))) ?_
          refine MGo_c0 rfl (by decide) (.run rfl (stp_move (.inl rfl) rfl)) ?_
          refine MGo_c0 rfl (by decide) (.want rfl rfl rfl (by decide) (stp_move (.inl rfl) rfl)) ?_
          refine MGo_c0 rfl (by decide) (.want rfl rfl rfl (by decide) (stp_move (.inl rfl) rfl)) ?_
          refine MGo_c0 rfl (by decide) (.want rfl rfl rfl (by decide) (stp_binI (r := .bool false) rfl rfl rfl (congrArg (fun b => some (Value.bool b)) l79))) ?_
          refine MGo_c0 rfl (by decide) (.run rfl (stp_pick rfl rfl rfl)) ?_
          refine MGo_c0 rfl (by decide) (.run rfl (stp_move (.inl rfl) rfl)) ?_
          refine MGo_c0 rfl (by decide) (.want rfl rfl rfl (by decide) (stp_move (.inl rfl) rfl)) ?_
          refine MGo_c0 rfl (by decide) (.want rfl rfl rfl (by decide) (stp_binI (r := .bool false) rfl rfl rfl (congrArg (fun b => some (Value.bool b)) l83))) ?_
          refine MGo_c0 rfl (by decide) (.want rfl rfl rfl (by decide) (stp_move (.inl rfl) rfl)) ?_
          refine MGo_c0 rfl (by decide) (.skip rfl rfl rfl (by decide) (by decide)) ?_
          refine MGo_c0 rfl (by decide) (.skip rfl rfl rfl (by decide) (by decide)) ?_
          refine MGo_c0 rfl (by decide) (.skip rfl rfl rfl (by decide) (by decide)) ?_
          refine MGo_c0 rfl (by decide) (.skip rfl rfl rfl (by decide) (by decide)) ?_
          refine MGo_c0 rfl (by decide) (.skip rfl rfl rfl (by decide) (by decide)) ?_
          refine MGo_c0 rfl (by decide) (.skip rfl rfl rfl (by decide) (by decide)) ?_
          refine MGo_c0 rfl (by decide) (.skip rfl rfl rfl (by decide) (by decide)) ?_
          refine MGo_c0 rfl (by decide) (.skip rfl rfl rfl (by decide) (by decide)) ?_
          refine MGo_c0 rfl (by decide) (.skip rfl rfl rfl (by decide) (by decide)) ?_
          refine MGo_c0 rfl (by decide) (.skip rfl rfl rfl (by decide) (by decide)) ?_
          refine MGo_c0 rfl (by decide) (.skip rfl rfl rfl (by decide) (by decide)) ?_
          refine MGo_c0 rfl (by decide) (.skip rfl rfl rfl (by decide) (by decide)) ?_
          refine MGo_c0 rfl (by decide) (.skip rfl rfl rfl (by decide) (by decide)) ?_
          refine MGo_nil ⟨rfl, rfl, ?_⟩
          refine awps_gs rfl rfl rfl rfl (by decide) rfl (by decide) ?_
          refine awps_g0 rfl rfl rfl (by decide) rfl (by decide) (stp_pick rfl rfl rfl) ?_
          refine awps_stp0 rfl rfl (by decide) (stp_pick rfl rfl rfl) ?_
          refine awps_nil ?_
          refine thenQ_nil ?_
          refine awp_condF rfl ?_
          refine awp_skip ?_
          refine inQ_nil ?_
          refine thenQ_nil ?_
          refine awp_region ?_
          refine awps_stp0 rfl rfl (by decide) (stp_move (.inl rfl) rfl) ?_
          refine awps_stp0 rfl rfl (by decide) (stp_add rfl rfl rfl (by omega)) ?_
          refine awps_stp0 rfl rfl (by decide) (stp_move (.inr rfl) rfl) ?_
          refine awps_nil ?_
          refine thenQ_nil ?_
          refine ⟨?_, ?_, ?_⟩
          · skip
            omega
          · skip
            trivial
          exact sub_re (SubT.cons (lk_eq rfl (by first | rfl | simp)) (SubT.cons (lk_eq rfl (by first | rfl | simp)) (SubT.cons (lk_eq rfl (by first | rfl | simp)) (SubT.nil)))) (SubO.cons (ok_eq rfl (by rfl)) (SubO.nil)) rfl rfl (noL' (noL hL) _)
        try simp only [↓str_beq_t, ↓str_beq_f, decide_eq_true_eq, decide_eq_false_iff_not, Bool.not_eq_true', Bool.not_eq_false', Int.not_lt, Int.not_le, beq_iff_eq, beq_eq_false_iff_ne, bne_iff_ne, bne_eq_false_iff_eq, ne_eq] at c2
        refine awp_exit ?_
        refine thenQ_exit (thenQ_exit (inQ_hit ?_))
        refine inQ_nil ?_
        refine thenQ_nil ?_
        refine awp_region ?_
        refine awps_stp0 rfl rfl (by decide) (stp_move (.inl rfl) rfl) ?_
        refine awps_stp0 rfl rfl (by decide) (stp_add rfl rfl rfl (by omega)) ?_
        refine awps_stp0 rfl rfl (by decide) (stp_move (.inr rfl) rfl) ?_
        refine awps_nil ?_
        refine thenQ_nil ?_
        refine ⟨?_, ?_, ?_⟩
        · skip
          omega
        · skip
          trivial
        exact sub_re (SubT.cons (lk_eq rfl (by first | rfl | simp)) (SubT.cons (lk_eq rfl (by first | rfl | simp)) (SubT.nil))) (SubO.cons (ok_eq rfl (by rfl)) (SubO.nil)) rfl rfl (noL' (noL hL) _)
      try simp only [↓str_beq_t, ↓str_beq_f, decide_eq_true_eq, decide_eq_false_iff_not, Bool.not_eq_true', Bool.not_eq_false', Int.not_lt, Int.not_le, beq_iff_eq, beq_eq_false_iff_ne, bne_iff_ne, bne_eq_false_iff_eq, ne_eq] at g27
      refine awps_gs rfl rfl rfl rfl (by decide) rfl (by decide) ?_
      refine awps_gs rfl rfl rfl rfl (by decide) rfl (by decide) ?_
      refine awps_stp0 rfl rfl (by decide) (stp_pick rfl rfl rfl) ?_
      refine awps_nil ?_
      refine thenQ_nil ?_
      refine awp_condF rfl ?_
      refine awp_exit ?_
      refine thenQ_exit (thenQ_exit (inQ_hit ?_))
      refine inQ_nil ?_
      refine thenQ_nil ?_
      refine awp_region ?_
      refine awps_stp0 rfl rfl (by decide) (stp_move (.inl rfl) rfl) ?_
      refine awps_stp0 rfl rfl (by decide) (stp_add rfl rfl rfl (by omega)) ?_
      refine awps_stp0 rfl rfl (by decide) (stp_move (.inr rfl) rfl) ?_
      refine awps_nil ?_
      refine thenQ_nil ?_
      refine ⟨?_, ?_, ?_⟩
      · skip
        omega
      · skip
        trivial
      exact sub_re (SubT.cons (lk_eq rfl (by first | rfl | simp)) (SubT.cons (lk_eq rfl (by first | rfl | simp)) (SubT.nil))) (SubO.cons (ok_eq rfl (by rfl)) (SubO.nil)) rfl rfl (noL' (noL hL) _)
    try simp only [↓str_beq_t, ↓str_beq_f, decide_eq_true_eq, decide_eq_false_iff_not, Bool.not_eq_true', Bool.not_eq_false', Int.not_lt, Int.not_le, beq_iff_eq, beq_eq_false_iff_ne, bne_iff_ne, bne_eq_false_iff_eq, ne_eq] at c1
    refine awp_exit ?_
    refine thenQ_exit (thenQ_exit (inQ_hit ?_))
    refine thenQ_nil ?_
    refine awp_seq ?_
    refine awp_region ?_
    refine awps_call (avs := [_]) true rfl rfl rfl (by decide) en_almagestref1_Name rfl rfl (rName_ok _) rfl rfl ?_
    refine awps_stp0 rfl rfl (by decide) (stp_move (.inl rfl) rfl) ?_
    refine awps_split 102 rfl (fun g102 => ?_) (fun g102 => ?_)
    · try simp only [↓str_beq_t, ↓str_beq_f, decide_eq_true_eq, decide_eq_false_iff_not, Bool.not_eq_true', Bool.not_eq_false', Int.not_lt, Int.not_le, beq_iff_eq, beq_eq_false_iff_ne, bne_iff_ne, bne_eq_false_iff_eq, ne_eq] at g102
      refine awps_g0 rfl rfl rfl (by decide) rfl (by decide) (stp_call (avs := []) true rfl en_almagestlaw9_wakes rfl rfl (wakes9_ok) (fun _ => rfl) rfl) ?_
      refine awps_stp0 rfl rfl (by decide) (stp_pick rfl rfl rfl) ?_
      refine awps_stp0 rfl rfl (by decide) (stp_move (.inr rfl) rfl) ?_
      refine awps_nil ?_
      refine thenQ_nil ?_
      refine awp_ret ?_
      -- leaf 0Fg16T1Fg102T
      refine ret0 (noL hL) (.inl rfl) (resAs_tmp rfl (resAs_nil)) ?_ ?_
      · rfl
      first
      | exact ⟨rfl, rfl⟩
      | (exfalso; exact c4 (by rw [Bool.eq_iff_iff, beq_iff_eq]; exact hZ))
      | (exfalso; exact absurd (show (1 : Int) = 0 from m83) (by decide))
      | (exfalso; rw [show nameB ⟨#[97]⟩ = true by kernel_rfl] at g102; cases g102; done)
      | trace_state
    try simp only [↓str_beq_t, ↓str_beq_f, decide_eq_true_eq, decide_eq_false_iff_not, Bool.not_eq_true', Bool.not_eq_false', Int.not_lt, Int.not_le, beq_iff_eq, beq_eq_false_iff_ne, bne_iff_ne, bne_eq_false_iff_eq, ne_eq] at g102
    refine awps_gs rfl rfl rfl rfl (by decide) rfl (by decide) ?_
    refine awps_stp0 rfl rfl (by decide) (stp_pick rfl rfl rfl) ?_
    refine awps_stp0 rfl rfl (by decide) (stp_move (.inr rfl) rfl) ?_
    refine awps_nil ?_
    refine thenQ_nil ?_
    refine awp_ret ?_
    -- leaf 0Fg16T1Fg102F
    refine ret0 (noL hL) (.inl rfl) (resAs_tmp rfl (resAs_nil)) ?_ ?_
    · rfl
    first
    | exact ⟨rfl, rfl⟩
    | (exfalso; exact c4 (by rw [Bool.eq_iff_iff, beq_iff_eq]; exact hZ))
    | (exfalso; exact absurd (show (1 : Int) = 0 from m83) (by decide))
    | (exfalso; rw [show nameB ⟨#[97]⟩ = true by kernel_rfl] at g102; cases g102; done)
    | trace_state
  try simp only [↓str_beq_t, ↓str_beq_f, decide_eq_true_eq, decide_eq_false_iff_not, Bool.not_eq_true', Bool.not_eq_false', Int.not_lt, Int.not_le, beq_iff_eq, beq_eq_false_iff_ne, bne_iff_ne, bne_eq_false_iff_eq, ne_eq] at g16
  refine awps_gs rfl rfl rfl rfl (by decide) rfl (by decide) ?_
  refine awps_gs rfl rfl rfl rfl (by decide) rfl (by decide) ?_
  refine awps_stp0 rfl rfl (by decide) (stp_pick rfl rfl rfl) ?_
  refine awps_nil ?_
  refine thenQ_nil ?_
  refine awp_condF rfl ?_
  refine awp_exit ?_
  refine thenQ_exit (thenQ_exit (inQ_hit ?_))
  refine thenQ_nil ?_
  refine awp_seq ?_
  refine awp_region ?_
  refine awps_call (avs := [_]) true rfl rfl rfl (by decide) en_almagestref1_Name rfl rfl (rName_ok _) rfl rfl ?_
  refine awps_stp0 rfl rfl (by decide) (stp_move (.inl rfl) rfl) ?_
  refine awps_split 102 rfl (fun g102 => ?_) (fun g102 => ?_)
  · try simp only [↓str_beq_t, ↓str_beq_f, decide_eq_true_eq, decide_eq_false_iff_not, Bool.not_eq_true', Bool.not_eq_false', Int.not_lt, Int.not_le, beq_iff_eq, beq_eq_false_iff_ne, bne_iff_ne, bne_eq_false_iff_eq, ne_eq] at g102
    refine awps_g0 rfl rfl rfl (by decide) rfl (by decide) (stp_call (avs := []) true rfl en_almagestlaw9_wakes rfl rfl (wakes9_ok) (fun _ => rfl) rfl) ?_
    refine awps_stp0 rfl rfl (by decide) (stp_pick rfl rfl rfl) ?_
    refine awps_stp0 rfl rfl (by decide) (stp_move (.inr rfl) rfl) ?_
    refine awps_nil ?_
    refine thenQ_nil ?_
    refine awp_ret ?_
    -- leaf 0Fg16Fg102T
    refine ret0 (noL hL) (.inl rfl) (resAs_tmp rfl (resAs_nil)) ?_ ?_
    · rfl
    first
    | exact ⟨rfl, rfl⟩
    | (exfalso; exact c4 (by rw [Bool.eq_iff_iff, beq_iff_eq]; exact hZ))
    | (exfalso; exact absurd (show (1 : Int) = 0 from m83) (by decide))
    | (exfalso; rw [show nameB ⟨#[97]⟩ = true by kernel_rfl] at g102; cases g102; done)
    | trace_state
  try simp only [↓str_beq_t, ↓str_beq_f, decide_eq_true_eq, decide_eq_false_iff_not, Bool.not_eq_true', Bool.not_eq_false', Int.not_lt, Int.not_le, beq_iff_eq, beq_eq_false_iff_ne, bne_iff_ne, bne_eq_false_iff_eq, ne_eq] at g102
  refine awps_gs rfl rfl rfl rfl (by decide) rfl (by decide) ?_
  refine awps_stp0 rfl rfl (by decide) (stp_pick rfl rfl rfl) ?_
  refine awps_stp0 rfl rfl (by decide) (stp_move (.inr rfl) rfl) ?_
  refine awps_nil ?_
  refine thenQ_nil ?_
  refine awp_ret ?_
  -- leaf 0Fg16Fg102F
  refine ret0 (noL hL) (.inl rfl) (resAs_tmp rfl (resAs_nil)) ?_ ?_
  · rfl
  first
  | exact ⟨rfl, rfl⟩
  | (exfalso; exact c4 (by rw [Bool.eq_iff_iff, beq_iff_eq]; exact hZ))
  | (exfalso; exact absurd (show (1 : Int) = 0 from m83) (by decide))
  | (exfalso; rw [show nameB ⟨#[97]⟩ = true by kernel_rfl] at g102; cases g102; done)
  | trace_state
end Go.Proofs.Ytdecgkhdbfgldaa

set_option linter.unusedVariables false
set_option maxRecDepth 8000
namespace Go.Proofs.Ytdecgkhdbfgldaa
open Go Go.RowKit
theorem rdr_sp (w : World) (n : Nat) : Rdr Try.prog w n 51 2 (fun p : Int × Int => [.imm (.int .i64 p.1), .imm (.int .i64 p.2)]) (fun p => i64 p.1 ∧ i64 p.2) := by
  refine Rdr.map (fun x : Int × Int × Unit => (x.1, x.2.1)) (Rdr.struct st_api_Span (fun _ => rfl) fun m hm => RdrF.cons (Rdr.int ul_int) (RdrF.cons (Rdr.int ul_int) RdrF.nil)) (fun _ => rfl) ?_ ?_
  · rintro ⟨a, b, _⟩ _; rfl
  · rintro ⟨a, b, _⟩ ⟨h1, h2, _⟩; exact ⟨h1, h2⟩
theorem rdr_ft (w : World) (n : Nat) : Rdr Try.prog w n 53 6 ftD Ft.wf := by
  refine Rdr.map (fun x : Tm × (Int × Int) × Unit => ⟨x.1, x.2.1.1, x.2.1.2⟩) (Rdr.struct st_api_Fact (fun _ => rfl) fun m hm => RdrF.cons (rdr_tm w m) (RdrF.cons (rdr_sp w m) RdrF.nil)) (fun _ => rfl) ?_ ?_
  · rintro ⟨a, b, _⟩ _; rfl
  · rintro ⟨a, b, _⟩ ⟨h1, h2, _⟩; exact ⟨h1, h2⟩
theorem rdr_fts (w : World) (n : Nat) : Rdr Try.prog w n 43 1 (fun l : List Ft => [.sl 6 (ftDs l)]) (fun l => lenOk l ∧ ∀ g ∈ l, g.wf) := by
  refine Rdr.map id (Rdr.slice sl_S_api_Fact (by decide) fun k _ => rdr_ft w k) (fun _ => rfl) (fun _ _ => rfl) ?_
  rintro l ⟨h1, h2⟩
  rw [by_api_Fact] at h1
  exact ⟨lenOk_of h1 (by decide), h2⟩
theorem rdr_kp (w : World) (n : Nat) : Rdr Try.prog w n 114 7 kpD Kp.wf := by
  refine Rdr.map (fun x : Int × Ft × Unit => ⟨x.1, x.2.1⟩) (Rdr.struct st_api_Kept (fun _ => rfl) fun m hm => RdrF.cons (Rdr.int ul_int) (RdrF.cons (rdr_ft w m) RdrF.nil)) (fun _ => rfl) ?_ ?_
  · rintro ⟨a, b, _⟩ _; rfl
  · rintro ⟨a, b, _⟩ ⟨h1, h2, _⟩; exact ⟨h1, h2⟩
theorem rdr_kps (w : World) (n : Nat) : Rdr Try.prog w n 42 1 (fun l : List Kp => [.sl 7 (kpDs l)]) (fun l => lenOk l ∧ ∀ g ∈ l, g.wf) := by
  refine Rdr.map id (Rdr.slice sl_S_api_Kept (by decide) fun k _ => rdr_kp w k) (fun _ => rfl) (fun _ _ => rfl) ?_
  rintro l ⟨h1, h2⟩
  rw [by_api_Kept] at h1
  exact ⟨lenOk_of h1 (by decide), h2⟩
theorem rdr_ints (w : World) (n : Nat) : Rdr Try.prog w n 44 1 (fun l : List Int => [.sl 1 (inDs l)]) (fun l => lenOk l ∧ ∀ x ∈ l, i64 x) := by
  refine Rdr.map id (Rdr.slice sl_S_int (by decide) fun k _ => Rdr.int ul_int) (fun _ => rfl) (fun _ _ => rfl) ?_
  rintro l ⟨h1, h2⟩
  rw [by_int] at h1
  exact ⟨lenOk_of h1 (by decide), h2⟩
theorem rdr_a9 (w : World) (n : Nat) : Rdr Try.prog w n 46 3 a9D Ask9.wf := by
  refine Rdr.map (fun x : List Kp × List Ft × List Int × Unit => ⟨x.1, x.2.1, x.2.2.1⟩) (Rdr.struct st_almagestlaw9_Ask (fun _ => rfl) fun m hm => RdrF.cons (rdr_kps w m) (RdrF.cons (rdr_fts w m) (RdrF.cons (rdr_ints w m) RdrF.nil))) (fun _ => rfl) ?_ ?_
  · rintro ⟨a, b, c, _⟩ _; rfl
  · rintro ⟨a, b, c, _⟩ ⟨h1, h2, h3, _⟩; exact ⟨h1, h2, h3⟩
end Go.Proofs.Ytdecgkhdbfgldaa
