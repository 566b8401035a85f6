/- The row. -/
import Derived.Test.YtdecgkhdbfgldaaG8
import Derived.Test.YtdecgkhdbfgldaaRows
set_option linter.unusedVariables false
namespace Go.Proofs.Ytdecgkhdbfgldaa
open Go Go.ChangeShapes Go.WideShapes Go.ChangeAt Go.RowKit
set_option maxRecDepth 100000 in
theorem factsAdded_lifted (os : Os) (started : os.Started) (H : Type) (enc : TypeId × Value → H) :
    ReturnsInHanded {} Try.checked os 9 .any (Rows.factsAddedSpec.pre6 enc Try.prog Try.f9 Rows.factsAddedRow.domain false) (Rows.factsAddedSpec.post enc Try.prog Try.f9 false true false false) := by
  refine returnsInHanded_of_change_sized (C := Try.checked) own started (by kernel_rfl) Try.func9
    (ChangeSpec.witness6 (enc := enc) (C := Try.checked) false ⟨#[], #[.agg #[.slice none 0 0, .slice none 0 0, .slice none 0 0]], []⟩ 8 (by kernel_rfl) (by kernel_rfl) (by kernel_rfl) (by kernel_rfl)) ?_
  intro W base args ds gs before hval0 hW hcnd hsz0 _
  have hsz : (DataW.weightsEach Try.prog (Try.f9.params.toList ++ Rows.factsAddedSpec.plain.varTypes Try.prog) (ds ++ gs)).all (· ≤ reachBytes) = true := hsz0
  have hval : ∀ (j : Nat) t v, Try.f9.params[j]? = some t → args[j]? = some v → Value.okWide Try.prog W .any base t v := hval0
  have hW' := hW
  obtain ⟨p, q, hA0, hV, rfl, hfz, hnd⟩ := hW
  have hA : DataW.TrodAll enc Try.prog W 0 (fun _ => true) true Try.f9.params.toList args.toList ds p := hA0
  rw [Try.params9] at hA hval hsz
  obtain ⟨v0, vs0, d0, ds0, p0, q0, hargs, rfl, rfl, h0, r0⟩ := trodAll_cons hA
  obtain ⟨rfl, rfl, rfl⟩ := trodAll_nil r0
  obtain rfl : args = #[v0] := by cases args; simp_all
  obtain ⟨rfl, rfl⟩ := trodVars_none hV
  have hv := hval 0 46 v0 rfl rfl
  obtain ⟨gs0, hst⟩ := stB_struct st_almagestlaw9_Ask
  obtain ⟨cs, rfl, _, _⟩ : ∃ cs, v0 = .agg cs ∧ cs.size = Try.prog.cellsOf 46 ∧ Row.okWide Try.prog W .any base 46 cs := by
    unfold Value.okWide at hv
    rw [hst] at hv
    exact hv
  have k0 := h0
  have lt0 : ∀ x ∈ p0, x.block < W.heap.size := by obtain ⟨m, hm⟩ := k0; exact DataW.trod_lt m _ _ _ hm
  obtain ⟨fuel, hf⟩ := h0
  have hsz1 : (d0.weights Try.prog 46).all (· ≤ reachBytes) = true := by
    have h2 := hsz
    simp only [List.cons_append, List.nil_append, DataW.weightsEach, List.all_append, Bool.and_eq_true] at h2
    exact h2.1
  obtain ⟨p, hp, hr⟩ := (rdr_a9 W fuel).rd H enc _ _ _ hf hsz1
  clear hA0 hval0 hsz0 hsz
  refine (top_calls (FactsAdded_ok p hp) hr).mono fun e W' ⟨he, bel⟩ => ?_
  subst he
  exact ⟨_, rfl, _, _, _, [], _, [], hW', trodAll_mk1 (shut_bool ul_bool _), (trodAll_cons_mk (Below.trod laidOut (by kernel_rfl) (of_decide_eq_true (by kernel_rfl)) k0 bel lt0) trodAll_mk0), rfl, bel.frame _, fun h => by cases h⟩
theorem factsAdded_k10 : (Rows.factsAddedRow.inPlace == Try.prog.inPlace 9) = true := by kernel_rfl
theorem factsAdded_k11 : (Rows.factsAddedRow.unfollowed == Try.prog.unfollowed 9) = true := by kernel_rfl
theorem factsAdded_k12 : (Rows.factsAddedRow.recurses == Try.prog.recurses 9) = true := by kernel_rfl
theorem factsAdded_k13 : (Rows.factsAddedRow.named == Try.prog.varsNamed 9) = true := by kernel_rfl
theorem factsAdded_k22 : (Rows.factsAddedRow.plainKeys == Try.prog.plainKeys) = true := by kernel_rfl
theorem factsAdded_k24b : (Rows.factsAddedRow.lifted == Try.prog.liftsFinal) = true := by kernel_rfl
theorem factsAdded_closed : joinedFacts Try.prog 9 Try.f9 Rows.factsAddedSpec Rows.factsAddedRow = true :=
  and2 (and2 (and2 (and2 (and2 (and2 (and2 (and2 (and2 (and2 (and2 (and2 (and2 (and2 (and2 (and2 (and2 (and2 (and2 (and2 (and2 (and2 (and2 (and2 (and2 (and2 (and2 (and2 (and2 (and2 (and2 (by kernel_rfl) laidOut) mapsRowed_ok) (by kernel_rfl)) (by kernel_rfl)) (by kernel_rfl)) (by kernel_rfl)) (by kernel_rfl)) (by kernel_rfl)) factsAdded_k10) factsAdded_k11) factsAdded_k12) factsAdded_k13) (by kernel_rfl)) (by kernel_rfl)) (by kernel_rfl)) (by kernel_rfl)) (by kernel_rfl)) (by kernel_rfl)) (by kernel_rfl)) (by kernel_rfl)) (by kernel_rfl)) factsAdded_k22) (by kernel_rfl)) stopsHeard_ok) mayEnter_ok) factsAdded_k24b) (by kernel_rfl)) (by kernel_rfl)) (by kernel_rfl)) (by kernel_rfl)) (by kernel_rfl)
theorem factsAdded_fnamed : Try.pinned.checked.prog.funcNamed Rows.factsAddedRow.func = some 9 := by kernel_rfl
theorem factsAdded_inst : Try.f9.isInstance Try.pinned.checked.prog Rows.factsAddedRow.origin Rows.factsAddedRow.targs := of_decide_eq_true (by kernel_rfl)
theorem factsAdded_wrap : Try.f9.isWrapper Try.pinned.checked.prog Rows.factsAddedRow.wrapper Rows.factsAddedRow.mainSum := by
  unfold Func.isWrapper; first | (rw [if_pos (by decide +kernel)]; kernel_rfl) | (rw [if_neg (by decide +kernel)]; exact ⟨rfl, rfl⟩)
theorem factsAdded_over : Rows.factsAddedRow.holds Try.pinned (OpenSpec.ofChange Rows.factsAddedSpec) :=
  OpenClaim.holds_of_wide 9 Try.f9 rfl rfl rfl rfl rfl rfl rfl ⟨rfl, rfl, rfl, rfl, rfl⟩ rfl rfl rfl rfl rfl factsAdded_fnamed Try.func9 factsAdded_closed factsAdded_inst factsAdded_wrap
    (fun os started H enc _ => factsAdded_lifted os started H enc)
theorem factsAdded_holds : Rows.FactsAddedSaid := factsAdded_over
end Go.Proofs.Ytdecgkhdbfgldaa

