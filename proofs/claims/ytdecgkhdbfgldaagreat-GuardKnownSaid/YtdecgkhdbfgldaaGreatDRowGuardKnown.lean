/- The row. -/
import Derived.Test.YtdecgkhdbfgldaaGreatD18
import Derived.Test.YtdecgkhdbfgldaaGreatRows
set_option linter.unusedVariables false
namespace Go.Proofs.YtdecgkhdbfgldaaGreat
open Go Go.ChangeShapes Go.WideShapes Go.ChangeAt Go.RowKit

set_option maxRecDepth 100000 in
theorem guardKnown_lifted (os : Os) (started : os.Started) (H : Type) (enc : TypeId × Value → H) :
    ReturnsInHanded {} Tryz.checked os 10 .any (Rows.guardKnownSpec.pre6 enc Tryz.prog Tryz.f10 Rows.guardKnownRow.domain false) (Rows.guardKnownSpec.post enc Tryz.prog Tryz.f10 false true false false) := by
  refine returnsInHanded_of_change_sized (C := Tryz.checked) own started (by kernel_rfl) Tryz.func10
    (ChangeSpec.witness6 (enc := enc) (C := Tryz.checked) false ⟨#[], #[.agg #[.slice none 0 0, .slice none 0 0, .slice none 0 0, .slice none 0 0, .slice none 0 0]], []⟩ 8 (by kernel_rfl) (by kernel_rfl) (by kernel_rfl) (by kernel_rfl)) ?_
  intro W base args ds gs before hval0 hW hcnd hsz0 _
  have hsz : (DataW.weightsEach Tryz.prog (Tryz.f10.params.toList ++ Rows.guardKnownSpec.plain.varTypes Tryz.prog) (ds ++ gs)).all (· ≤ reachBytes) = true := hsz0
  have hval : ∀ (j : Nat) t v, Tryz.f10.params[j]? = some t → args[j]? = some v → Value.okWide Tryz.prog W .any base t v := hval0
  have hW' := hW
  obtain ⟨p, q, hA0, hV, rfl, hfz, hnd⟩ := hW
  have hA : DataW.TrodAll enc Tryz.prog W 0 (fun _ => true) true Tryz.f10.params.toList args.toList ds p := hA0
  rw [Tryz.params10] at hA hval hsz
  obtain ⟨v0, vs0, d0, ds0, p0, q0, hargs, rfl, rfl, h0, r0⟩ := trodAll_cons hA
  obtain ⟨rfl, rfl, rfl⟩ := trodAll_nil r0
  obtain rfl : args = #[v0] := by cases args; simp_all
  obtain ⟨rfl, rfl⟩ := trodVars_none hV
  have hv := hval 0 64 v0 rfl rfl
  obtain ⟨gs0, hst⟩ := stB_struct qba
  obtain ⟨cs, rfl, _, _⟩ : ∃ cs, v0 = .agg cs ∧ cs.size = Tryz.prog.cellsOf 64 ∧ Row.okWide Tryz.prog W .any base 64 cs := by
    unfold Value.okWide at hv
    rw [hst] at hv
    exact hv
  have k0 := h0
  have lt0 : ∀ x ∈ p0, x.block < W.heap.size := by obtain ⟨m, hm⟩ := k0; exact DataW.trod_lt m _ _ _ hm
  obtain ⟨fuel, hf⟩ := h0
  have hsz1 : (d0.weights Tryz.prog 64).all (· ≤ reachBytes) = true := by
    have h2 := hsz
    simp only [List.cons_append, List.nil_append, DataW.weightsEach, List.all_append, Bool.and_eq_true] at h2
    exact h2.1
  obtain ⟨p, hp, hr⟩ := (rdr_a12 W fuel).rd H enc _ _ _ hf hsz1
  clear hA0 hval0 hsz0 hsz
  refine (top_calls (GuardKnown_ok p hp) hr).mono fun e W' ⟨he, bel⟩ => ?_
  subst he
  exact ⟨_, rfl, _, _, _, [], _, [], hW', trodAll_mk1 (shut_bool ul_bool _), (trodAll_cons_mk (Below.trod laidOut (by kernel_rfl) (of_decide_eq_true (by kernel_rfl)) k0 bel lt0) trodAll_mk0), rfl, bel.frame _, fun h => by cases h⟩
theorem guardKnown_k10 : (Rows.guardKnownRow.inPlace == Tryz.prog.inPlace 10) = true := by kernel_rfl
theorem guardKnown_k11 : (Rows.guardKnownRow.unfollowed == Tryz.prog.unfollowed 10) = true := by kernel_rfl
theorem guardKnown_k12 : (Rows.guardKnownRow.recurses == Tryz.prog.recurses 10) = true := by kernel_rfl
theorem guardKnown_k13 : (Rows.guardKnownRow.named == Tryz.prog.varsNamed 10) = true := by kernel_rfl
theorem guardKnown_k22 : (Rows.guardKnownRow.plainKeys == Tryz.prog.plainKeys) = true := by kernel_rfl
theorem guardKnown_k24b : (Rows.guardKnownRow.lifted == Tryz.prog.liftsFinal) = true := by kernel_rfl
theorem guardKnown_closed : joinedFacts Tryz.prog 10 Tryz.f10 Rows.guardKnownSpec Rows.guardKnownRow = true :=
  and2 (and2 (and2 (and2 (and2 (and2 (and2 (and2 (and2 (and2 (and2 (and2 (and2 (and2 (and2 (and2 (and2 (and2 (and2 (and2 (and2 (and2 (and2 (and2 (and2 (and2 (and2 (and2 (and2 (and2 (and2 (by kernel_rfl) laidOut) qcW) (by kernel_rfl)) (by kernel_rfl)) (by kernel_rfl)) (by kernel_rfl)) (by kernel_rfl)) (by kernel_rfl)) guardKnown_k10) guardKnown_k11) guardKnown_k12) guardKnown_k13) (by kernel_rfl)) (by kernel_rfl)) (by kernel_rfl)) (by kernel_rfl)) (by kernel_rfl)) (by kernel_rfl)) (by kernel_rfl)) (by kernel_rfl)) (by kernel_rfl)) guardKnown_k22) (by kernel_rfl)) qcB) mayEnter_ok) guardKnown_k24b) (by kernel_rfl)) (by kernel_rfl)) (by kernel_rfl)) (by kernel_rfl)) (by kernel_rfl)
theorem guardKnown_fnamed : Tryz.pinned.checked.prog.funcNamed Rows.guardKnownRow.func = some 10 := by kernel_rfl
theorem guardKnown_inst : Tryz.f10.isInstance Tryz.pinned.checked.prog Rows.guardKnownRow.origin Rows.guardKnownRow.targs := of_decide_eq_true (by kernel_rfl)
theorem guardKnown_wrap : Tryz.f10.isWrapper Tryz.pinned.checked.prog Rows.guardKnownRow.wrapper Rows.guardKnownRow.mainSum := by
  unfold Func.isWrapper; first | (rw [if_pos (by decide +kernel)]; kernel_rfl) | (rw [if_neg (by decide +kernel)]; exact ⟨rfl, rfl⟩)
theorem guardKnown_over : Rows.guardKnownRow.holds Tryz.pinned (OpenSpec.ofChange Rows.guardKnownSpec) :=
  OpenClaim.holds_of_wide 10 Tryz.f10 rfl rfl rfl rfl rfl rfl rfl ⟨rfl, rfl, rfl, rfl, rfl⟩ rfl rfl rfl rfl rfl guardKnown_fnamed Tryz.func10 guardKnown_closed guardKnown_inst guardKnown_wrap
    (fun os started H enc _ => guardKnown_lifted os started H enc)
/-- The row. -/
theorem guardKnown_holds : Rows.GuardKnownSaid := guardKnown_over

end Go.Proofs.YtdecgkhdbfgldaaGreat
