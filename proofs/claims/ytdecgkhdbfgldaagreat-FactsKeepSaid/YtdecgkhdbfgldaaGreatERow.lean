/- The row. -/
import Derived.Test.YtdecgkhdbfgldaaGreatE15
import Derived.Test.YtdecgkhdbfgldaaGreatRows
set_option linter.unusedVariables false
namespace Go.Proofs.YtdecgkhdbfgldaaGreat
open Go Go.ChangeShapes Go.WideShapes Go.ChangeAt Go.RowKit
set_option maxRecDepth 100000 in
theorem factsKeep_lifted (os : Os) (started : os.Started) (H : Type) (enc : TypeId × Value → H) :
    ReturnsInHanded {} Tryz.checked os 12 .any (Rows.factsKeepSpec.pre6 enc Tryz.prog Tryz.f12 Rows.factsKeepRow.domain false) (Rows.factsKeepSpec.post enc Tryz.prog Tryz.f12 false true false false) := by
  refine returnsInHanded_of_change_sized (C := Tryz.checked) own started (by kernel_rfl) Tryz.func12
    (ChangeSpec.witness6 (enc := enc) (C := Tryz.checked) false ⟨#[], #[.agg #[.slice none 0 0, .slice none 0 0, .slice none 0 0]], []⟩ 8 (by kernel_rfl) (by kernel_rfl) (by kernel_rfl) (by kernel_rfl)) ?_
  intro W base args ds gs before hval0 hW hcnd hsz0 _
  have hsz : (DataW.weightsEach Tryz.prog (Tryz.f12.params.toList ++ Rows.factsKeepSpec.plain.varTypes Tryz.prog) (ds ++ gs)).all (· ≤ reachBytes) = true := hsz0
  have hval : ∀ (j : Nat) t v, Tryz.f12.params[j]? = some t → args[j]? = some v → Value.okWide Tryz.prog W .any base t v := hval0
  have hW' := hW
  obtain ⟨p, q, hA0, hV, rfl, hfz, hnd⟩ := hW
  have hA : DataW.TrodAll enc Tryz.prog W 0 (fun _ => true) true Tryz.f12.params.toList args.toList ds p := hA0
  rw [Tryz.params12] at hA hval hsz
  obtain ⟨v0, vs0, d0, ds0, p0, q0, hargs, rfl, rfl, h0, r0⟩ := trodAll_cons hA
  obtain ⟨rfl, rfl, rfl⟩ := trodAll_nil r0
  obtain rfl : args = #[v0] := by cases args; simp_all
  obtain ⟨rfl, rfl⟩ := trodVars_none hV
  have hv := hval 0 73 v0 rfl rfl
  obtain ⟨gs0, hst⟩ := stB_struct st_almagestlaw9_Ask
  obtain ⟨cs, rfl, _, _⟩ : ∃ cs, v0 = .agg cs ∧ cs.size = Tryz.prog.cellsOf 73 ∧ Row.okWide Tryz.prog W .any base 73 cs := by
    unfold Value.okWide at hv
    rw [hst] at hv
    exact hv
  have k0 := h0
  have lt0 : ∀ x ∈ p0, x.block < W.heap.size := by obtain ⟨m, hm⟩ := k0; exact DataW.trod_lt m _ _ _ hm
  obtain ⟨fuel, hf⟩ := h0
  have hsz1 : (d0.weights Tryz.prog 73).all (· ≤ reachBytes) = true := by
    have h2 := hsz
    simp only [List.cons_append, List.nil_append, DataW.weightsEach, List.all_append, Bool.and_eq_true] at h2
    exact h2.1
  obtain ⟨p, hp, hr⟩ := (rdr_a9 W fuel).rd H enc _ _ _ hf hsz1
  clear hA0 hval0 hsz0 hsz
  refine (top_calls (FactsKeep_ok p hp) hr).mono fun e W' ⟨he, bel⟩ => ?_
  subst he
  exact ⟨_, rfl, _, _, _, [], _, [], hW', trodAll_mk1 (shut_bool ul_bool _), (trodAll_cons_mk (Below.trod laidOut (by kernel_rfl) (of_decide_eq_true (by kernel_rfl)) k0 bel lt0) trodAll_mk0), rfl, bel.frame _, fun h => by cases h⟩
theorem factsKeep_k10 : (Rows.factsKeepRow.inPlace == Tryz.prog.inPlace 12) = true := by kernel_rfl
theorem factsKeep_k11 : (Rows.factsKeepRow.unfollowed == Tryz.prog.unfollowed 12) = true := by kernel_rfl
theorem factsKeep_k12 : (Rows.factsKeepRow.recurses == Tryz.prog.recurses 12) = true := by kernel_rfl
theorem factsKeep_k13 : (Rows.factsKeepRow.named == Tryz.prog.varsNamed 12) = true := by kernel_rfl
theorem factsKeep_k22 : (Rows.factsKeepRow.plainKeys == Tryz.prog.plainKeys) = true := by kernel_rfl
theorem factsKeep_k24b : (Rows.factsKeepRow.lifted == Tryz.prog.liftsFinal) = true := by kernel_rfl
theorem factsKeep_closed : joinedFacts Tryz.prog 12 Tryz.f12 Rows.factsKeepSpec Rows.factsKeepRow = true :=
  and2 (and2 (and2 (and2 (and2 (and2 (and2 (and2 (and2 (and2 (and2 (and2 (and2 (and2 (and2 (and2 (and2 (and2 (and2 (and2 (and2 (and2 (and2 (and2 (and2 (and2 (and2 (and2 (and2 (and2 (and2 (by kernel_rfl) laidOut) mapsRowed_ok) (by kernel_rfl)) (by kernel_rfl)) (by kernel_rfl)) (by kernel_rfl)) (by kernel_rfl)) (by kernel_rfl)) factsKeep_k10) factsKeep_k11) factsKeep_k12) factsKeep_k13) (by kernel_rfl)) (by kernel_rfl)) (by kernel_rfl)) (by kernel_rfl)) (by kernel_rfl)) (by kernel_rfl)) (by kernel_rfl)) (by kernel_rfl)) (by kernel_rfl)) factsKeep_k22) (by kernel_rfl)) stopsHeard_ok) mayEnter_ok) factsKeep_k24b) (by kernel_rfl)) (by kernel_rfl)) (by kernel_rfl)) (by kernel_rfl)) (by kernel_rfl)
theorem factsKeep_fnamed : Tryz.pinned.checked.prog.funcNamed Rows.factsKeepRow.func = some 12 := by kernel_rfl
theorem factsKeep_inst : Tryz.f12.isInstance Tryz.pinned.checked.prog Rows.factsKeepRow.origin Rows.factsKeepRow.targs := of_decide_eq_true (by kernel_rfl)
theorem factsKeep_wrap : Tryz.f12.isWrapper Tryz.pinned.checked.prog Rows.factsKeepRow.wrapper Rows.factsKeepRow.mainSum := by
  unfold Func.isWrapper; first | (rw [if_pos (by decide +kernel)]; kernel_rfl) | (rw [if_neg (by decide +kernel)]; exact ⟨rfl, rfl⟩)
theorem factsKeep_over : Rows.factsKeepRow.holds Tryz.pinned (OpenSpec.ofChange Rows.factsKeepSpec) :=
  OpenClaim.holds_of_wide 12 Tryz.f12 rfl rfl rfl rfl rfl rfl rfl ⟨rfl, rfl, rfl, rfl, rfl⟩ rfl rfl rfl rfl rfl factsKeep_fnamed Tryz.func12 factsKeep_closed factsKeep_inst factsKeep_wrap
    (fun os started H enc _ => factsKeep_lifted os started H enc)
theorem factsKeep_holds : Rows.FactsKeepSaid := factsKeep_over
end Go.Proofs.YtdecgkhdbfgldaaGreat

