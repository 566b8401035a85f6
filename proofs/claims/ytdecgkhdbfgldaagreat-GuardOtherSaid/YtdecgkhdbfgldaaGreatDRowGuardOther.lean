/- The row. -/
import Derived.Test.YtdecgkhdbfgldaaGreatD18
import Derived.Test.YtdecgkhdbfgldaaGreatRows
set_option linter.unusedVariables false
namespace Go.Proofs.YtdecgkhdbfgldaaGreat
open Go Go.ChangeShapes Go.WideShapes Go.ChangeAt Go.RowKit

set_option maxRecDepth 100000 in
theorem guardOther_lifted (os : Os) (started : os.Started) (H : Type) (enc : TypeId × Value → H) :
    ReturnsInHanded {} Tryz.checked os 9 .any (Rows.guardOtherSpec.pre6 enc Tryz.prog Tryz.f9 Rows.guardOtherRow.domain false) (Rows.guardOtherSpec.post enc Tryz.prog Tryz.f9 false true false false) := by
  refine returnsInHanded_of_change_sized (C := Tryz.checked) own started (by kernel_rfl) Tryz.func9
    (ChangeSpec.witness6 (enc := enc) (C := Tryz.checked) false ⟨#[], #[.agg #[.slice none 0 0, .slice none 0 0, .slice none 0 0, .slice none 0 0, .slice none 0 0]], []⟩ 8 (by kernel_rfl) (by kernel_rfl) (by kernel_rfl) (by kernel_rfl)) ?_
  intro W base args ds gs before hval0 hW hcnd hsz0 _
  have hsz : (DataW.weightsEach Tryz.prog (Tryz.f9.params.toList ++ Rows.guardOtherSpec.plain.varTypes Tryz.prog) (ds ++ gs)).all (· ≤ reachBytes) = true := hsz0
  have hval : ∀ (j : Nat) t v, Tryz.f9.params[j]? = some t → args[j]? = some v → Value.okWide Tryz.prog W .any base t v := hval0
  have hW' := hW
  obtain ⟨p, q, hA0, hV, rfl, hfz, hnd⟩ := hW
  have hA : DataW.TrodAll enc Tryz.prog W 0 (fun _ => true) true Tryz.f9.params.toList args.toList ds p := hA0
  rw [Tryz.params9] at hA hval hsz
  obtain ⟨v0, vs0, d0, ds0, p0, q0, hargs, rfl, rfl, h0, r0⟩ := trodAll_cons hA
  obtain ⟨rfl, rfl, rfl⟩ := trodAll_nil r0
  obtain rfl : args = #[v0] := by cases args; simp_all
  obtain ⟨rfl, rfl⟩ := trodVars_none hV
  have hv := hval 0 64 v0 rfl rfl
  obtain ⟨gs0, hst⟩ := stB_struct qba
  obtain ⟨cs, rfl, _, _⟩ : ∃ cs, v0 = .agg cs ∧ cs.size = Tryz.prog.cellsOf 64 ∧ Row.okWide Tryz.prog W .any base 64 cs := by
    unfold Value.okWide at hv
    rw [hst] at hv
    exact hv
  have k0 := h0
  have lt0 : ∀ x ∈ p0, x.block < W.heap.size := by obtain ⟨m, hm⟩ := k0; exact DataW.trod_lt m _ _ _ hm
  obtain ⟨fuel, hf⟩ := h0
  have hsz1 : (d0.weights Tryz.prog 64).all (· ≤ reachBytes) = true := by
    have h2 := hsz
    simp only [List.cons_append, List.nil_append, DataW.weightsEach, List.all_append, Bool.and_eq_true] at h2
    exact h2.1
  obtain ⟨p, hp, hr⟩ := (rdr_a12 W fuel).rd H enc _ _ _ hf hsz1
  clear hA0 hval0 hsz0 hsz
  refine (top_calls (GuardOther_ok p hp) hr).mono fun e W' ⟨he, bel⟩ => ?_
  subst he
  exact ⟨_, rfl, _, _, _, [], _, [], hW', trodAll_mk1 (shut_bool ul_bool _), (trodAll_cons_mk (Below.trod laidOut (by kernel_rfl) (of_decide_eq_true (by kernel_rfl)) k0 bel lt0) trodAll_mk0), rfl, bel.frame _, fun h => by cases h⟩
theorem guardOther_k10 : (Rows.guardOtherRow.inPlace == Tryz.prog.inPlace 9) = true := by kernel_rfl
theorem guardOther_k11 : (Rows.guardOtherRow.unfollowed == Tryz.prog.unfollowed 9) = true := by kernel_rfl
theorem guardOther_k12 : (Rows.guardOtherRow.recurses == Tryz.prog.recurses 9) = true := by kernel_rfl
theorem guardOther_k13 : (Rows.guardOtherRow.named == Tryz.prog.varsNamed 9) = true := by kernel_rfl
theorem guardOther_k22 : (Rows.guardOtherRow.plainKeys == Tryz.prog.plainKeys) = true := by kernel_rfl
theorem guardOther_k24b : (Rows.guardOtherRow.lifted == Tryz.prog.liftsFinal) = true := by kernel_rfl
theorem guardOther_closed : joinedFacts Tryz.prog 9 Tryz.f9 Rows.guardOtherSpec Rows.guardOtherRow = true :=
  and2 (and2 (and2 (and2 (and2 (and2 (and2 (and2 (and2 (and2 (and2 (and2 (and2 (and2 (and2 (and2 (and2 (and2 (and2 (and2 (and2 (and2 (and2 (and2 (and2 (and2 (and2 (and2 (and2 (and2 (and2 (by kernel_rfl) laidOut) qcW) (by kernel_rfl)) (by kernel_rfl)) (by kernel_rfl)) (by kernel_rfl)) (by kernel_rfl)) (by kernel_rfl)) guardOther_k10) guardOther_k11) guardOther_k12) guardOther_k13) (by kernel_rfl)) (by kernel_rfl)) (by kernel_rfl)) (by kernel_rfl)) (by kernel_rfl)) (by kernel_rfl)) (by kernel_rfl)) (by kernel_rfl)) (by kernel_rfl)) guardOther_k22) (by kernel_rfl)) qcB) mayEnter_ok) guardOther_k24b) (by kernel_rfl)) (by kernel_rfl)) (by kernel_rfl)) (by kernel_rfl)) (by kernel_rfl)
theorem guardOther_fnamed : Tryz.pinned.checked.prog.funcNamed Rows.guardOtherRow.func = some 9 := by kernel_rfl
theorem guardOther_inst : Tryz.f9.isInstance Tryz.pinned.checked.prog Rows.guardOtherRow.origin Rows.guardOtherRow.targs := of_decide_eq_true (by kernel_rfl)
theorem guardOther_wrap : Tryz.f9.isWrapper Tryz.pinned.checked.prog Rows.guardOtherRow.wrapper Rows.guardOtherRow.mainSum := by
  unfold Func.isWrapper; first | (rw [if_pos (by decide +kernel)]; kernel_rfl) | (rw [if_neg (by decide +kernel)]; exact ⟨rfl, rfl⟩)
theorem guardOther_over : Rows.guardOtherRow.holds Tryz.pinned (OpenSpec.ofChange Rows.guardOtherSpec) :=
  OpenClaim.holds_of_wide 9 Tryz.f9 rfl rfl rfl rfl rfl rfl rfl ⟨rfl, rfl, rfl, rfl, rfl⟩ rfl rfl rfl rfl rfl guardOther_fnamed Tryz.func9 guardOther_closed guardOther_inst guardOther_wrap
    (fun os started H enc _ => guardOther_lifted os started H enc)
/-- The row. -/
theorem guardOther_holds : Rows.GuardOtherSaid := guardOther_over

end Go.Proofs.YtdecgkhdbfgldaaGreat
