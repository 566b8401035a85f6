/- The row. -/
import Derived.Test.YtdecgkhdbfgldaaGreatD18
import Derived.Test.YtdecgkhdbfgldaaGreatRows
set_option linter.unusedVariables false
namespace Go.Proofs.YtdecgkhdbfgldaaGreat
open Go Go.ChangeShapes Go.WideShapes Go.ChangeAt Go.RowKit

set_option maxRecDepth 100000 in
theorem guardUnknown_lifted (os : Os) (started : os.Started) (H : Type) (enc : TypeId × Value → H) :
    ReturnsInHanded {} Tryz.checked os 11 .any (Rows.guardUnknownSpec.pre6 enc Tryz.prog Tryz.f11 Rows.guardUnknownRow.domain false) (Rows.guardUnknownSpec.post enc Tryz.prog Tryz.f11 false true false false) := by
  refine returnsInHanded_of_change_sized (C := Tryz.checked) own started (by kernel_rfl) Tryz.func11
    (ChangeSpec.witness6 (enc := enc) (C := Tryz.checked) false ⟨#[], #[.agg #[.slice none 0 0, .slice none 0 0, .slice none 0 0, .slice none 0 0, .slice none 0 0]], []⟩ 8 (by kernel_rfl) (by kernel_rfl) (by kernel_rfl) (by kernel_rfl)) ?_
  intro W base args ds gs before hval0 hW hcnd hsz0 _
  have hsz : (DataW.weightsEach Tryz.prog (Tryz.f11.params.toList ++ Rows.guardUnknownSpec.plain.varTypes Tryz.prog) (ds ++ gs)).all (· ≤ reachBytes) = true := hsz0
  have hval : ∀ (j : Nat) t v, Tryz.f11.params[j]? = some t → args[j]? = some v → Value.okWide Tryz.prog W .any base t v := hval0
  have hW' := hW
  obtain ⟨p, q, hA0, hV, rfl, hfz, hnd⟩ := hW
  have hA : DataW.TrodAll enc Tryz.prog W 0 (fun _ => true) true Tryz.f11.params.toList args.toList ds p := hA0
  rw [Tryz.params11] at hA hval hsz
  obtain ⟨v0, vs0, d0, ds0, p0, q0, hargs, rfl, rfl, h0, r0⟩ := trodAll_cons hA
  obtain ⟨rfl, rfl, rfl⟩ := trodAll_nil r0
  obtain rfl : args = #[v0] := by cases args; simp_all
  obtain ⟨rfl, rfl⟩ := trodVars_none hV
  have hv := hval 0 64 v0 rfl rfl
  obtain ⟨gs0, hst⟩ := stB_struct qba
  obtain ⟨cs, rfl, _, _⟩ : ∃ cs, v0 = .agg cs ∧ cs.size = Tryz.prog.cellsOf 64 ∧ Row.okWide Tryz.prog W .any base 64 cs := by
    unfold Value.okWide at hv
    rw [hst] at hv
    exact hv
  have k0 := h0
  have lt0 : ∀ x ∈ p0, x.block < W.heap.size := by obtain ⟨m, hm⟩ := k0; exact DataW.trod_lt m _ _ _ hm
  obtain ⟨fuel, hf⟩ := h0
  have hsz1 : (d0.weights Tryz.prog 64).all (· ≤ reachBytes) = true := by
    have h2 := hsz
    simp only [List.cons_append, List.nil_append, DataW.weightsEach, List.all_append, Bool.and_eq_true] at h2
    exact h2.1
  obtain ⟨p, hp, hr⟩ := (rdr_a12 W fuel).rd H enc _ _ _ hf hsz1
  clear hA0 hval0 hsz0 hsz
  refine (top_calls (GuardUnknown_ok p hp) hr).mono fun e W' ⟨he, bel⟩ => ?_
  subst he
  exact ⟨_, rfl, _, _, _, [], _, [], hW', trodAll_mk1 (shut_bool ul_bool _), (trodAll_cons_mk (Below.trod laidOut (by kernel_rfl) (of_decide_eq_true (by kernel_rfl)) k0 bel lt0) trodAll_mk0), rfl, bel.frame _, fun h => by cases h⟩
theorem guardUnknown_k10 : (Rows.guardUnknownRow.inPlace == Tryz.prog.inPlace 11) = true := by kernel_rfl
theorem guardUnknown_k11 : (Rows.guardUnknownRow.unfollowed == Tryz.prog.unfollowed 11) = true := by kernel_rfl
theorem guardUnknown_k12 : (Rows.guardUnknownRow.recurses == Tryz.prog.recurses 11) = true := by kernel_rfl
theorem guardUnknown_k13 : (Rows.guardUnknownRow.named == Tryz.prog.varsNamed 11) = true := by kernel_rfl
theorem guardUnknown_k22 : (Rows.guardUnknownRow.plainKeys == Tryz.prog.plainKeys) = true := by kernel_rfl
theorem guardUnknown_k24b : (Rows.guardUnknownRow.lifted == Tryz.prog.liftsFinal) = true := by kernel_rfl
theorem guardUnknown_closed : joinedFacts Tryz.prog 11 Tryz.f11 Rows.guardUnknownSpec Rows.guardUnknownRow = true :=
  and2 (and2 (and2 (and2 (and2 (and2 (and2 (and2 (and2 (and2 (and2 (and2 (and2 (and2 (and2 (and2 (and2 (and2 (and2 (and2 (and2 (and2 (and2 (and2 (and2 (and2 (and2 (and2 (and2 (and2 (and2 (by kernel_rfl) laidOut) qcW) (by kernel_rfl)) (by kernel_rfl)) (by kernel_rfl)) (by kernel_rfl)) (by kernel_rfl)) (by kernel_rfl)) guardUnknown_k10) guardUnknown_k11) guardUnknown_k12) guardUnknown_k13) (by kernel_rfl)) (by kernel_rfl)) (by kernel_rfl)) (by kernel_rfl)) (by kernel_rfl)) (by kernel_rfl)) (by kernel_rfl)) (by kernel_rfl)) (by kernel_rfl)) guardUnknown_k22) (by kernel_rfl)) qcB) mayEnter_ok) guardUnknown_k24b) (by kernel_rfl)) (by kernel_rfl)) (by kernel_rfl)) (by kernel_rfl)) (by kernel_rfl)
theorem guardUnknown_fnamed : Tryz.pinned.checked.prog.funcNamed Rows.guardUnknownRow.func = some 11 := by kernel_rfl
theorem guardUnknown_inst : Tryz.f11.isInstance Tryz.pinned.checked.prog Rows.guardUnknownRow.origin Rows.guardUnknownRow.targs := of_decide_eq_true (by kernel_rfl)
theorem guardUnknown_wrap : Tryz.f11.isWrapper Tryz.pinned.checked.prog Rows.guardUnknownRow.wrapper Rows.guardUnknownRow.mainSum := by
  unfold Func.isWrapper; first | (rw [if_pos (by decide +kernel)]; kernel_rfl) | (rw [if_neg (by decide +kernel)]; exact ⟨rfl, rfl⟩)
theorem guardUnknown_over : Rows.guardUnknownRow.holds Tryz.pinned (OpenSpec.ofChange Rows.guardUnknownSpec) :=
  OpenClaim.holds_of_wide 11 Tryz.f11 rfl rfl rfl rfl rfl rfl rfl ⟨rfl, rfl, rfl, rfl, rfl⟩ rfl rfl rfl rfl rfl guardUnknown_fnamed Tryz.func11 guardUnknown_closed guardUnknown_inst guardUnknown_wrap
    (fun os started H enc _ => guardUnknown_lifted os started H enc)
/-- The row. -/
theorem guardUnknown_holds : Rows.GuardUnknownSaid := guardUnknown_over

end Go.Proofs.YtdecgkhdbfgldaaGreat
