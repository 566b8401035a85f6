/- The row. -/
import Derived.Test.YtdecgkhdbfgldaaGreatH12
import Derived.Test.YtdecgkhdbfgldaaGreatRows
set_option linter.unusedVariables false
namespace Go.Proofs.YtdecgkhdbfgldaaGreat
open Go Go.ChangeShapes Go.WideShapes Go.ChangeAt Go.RowKit
set_option maxRecDepth 100000 in
theorem knownLeast_lifted (os : Os) (started : os.Started) (H : Type) (enc : TypeId × Value → H) :
    ReturnsInHanded {} Tryz.checked os 14 .any (Rows.knownLeastSpec.pre6 enc Tryz.prog Tryz.f14 Rows.knownLeastRow.domain false) (Rows.knownLeastSpec.post enc Tryz.prog Tryz.f14 false true false false) := by
  refine returnsInHanded_of_change_sized (C := Tryz.checked) own started (by kernel_rfl) Tryz.func14
    (ChangeSpec.witness6 (enc := enc) (C := Tryz.checked) false ⟨#[], #[.agg #[.slice none 0 0, .slice none 0 0, .slice none 0 0]], []⟩ 8 (by kernel_rfl) (by kernel_rfl) (by kernel_rfl) (by kernel_rfl)) ?_
  intro W base args ds gs before hval0 hW hcnd hsz0 _
  have hsz : (DataW.weightsEach Tryz.prog (Tryz.f14.params.toList ++ Rows.knownLeastSpec.plain.varTypes Tryz.prog) (ds ++ gs)).all (· ≤ reachBytes) = true := hsz0
  have hval : ∀ (j : Nat) t v, Tryz.f14.params[j]? = some t → args[j]? = some v → Value.okWide Tryz.prog W .any base t v := hval0
  have hW' := hW
  obtain ⟨p, q, hA0, hV, rfl, hfz, hnd⟩ := hW
  have hA : DataW.TrodAll enc Tryz.prog W 0 (fun _ => true) true Tryz.f14.params.toList args.toList ds p := hA0
  rw [Tryz.params14] at hA hval hsz
  obtain ⟨v0, vs0, d0, ds0, p0, q0, hargs, rfl, rfl, h0, r0⟩ := trodAll_cons hA
  obtain ⟨rfl, rfl, rfl⟩ := trodAll_nil r0
  obtain rfl : args = #[v0] := by cases args; simp_all
  obtain ⟨rfl, rfl⟩ := trodVars_none hV
  have hv := hval 0 61 v0 rfl rfl
  obtain ⟨gs0, hst⟩ := stB_struct st_almagestlaw11_Ask
  obtain ⟨cs, rfl, _, _⟩ : ∃ cs, v0 = .agg cs ∧ cs.size = Tryz.prog.cellsOf 61 ∧ Row.okWide Tryz.prog W .any base 61 cs := by
    unfold Value.okWide at hv
    rw [hst] at hv
    exact hv
  have k0 := h0
  have lt0 : ∀ x ∈ p0, x.block < W.heap.size := by obtain ⟨m, hm⟩ := k0; exact DataW.trod_lt m _ _ _ hm
  obtain ⟨fuel, hf⟩ := h0
  have hsz1 : (d0.weights Tryz.prog 61).all (· ≤ reachBytes) = true := by
    have h2 := hsz
    simp only [List.cons_append, List.nil_append, DataW.weightsEach, List.all_append, Bool.and_eq_true] at h2
    exact h2.1
  obtain ⟨p, hp, hr⟩ := (rdr_a11 W fuel).rd H enc _ _ _ hf hsz1
  clear hA0 hval0 hsz0 hsz
  refine (top_calls (KnownLeast_ok p hp) hr).mono fun e W' ⟨he, bel⟩ => ?_
  subst he
  exact ⟨_, rfl, _, _, _, [], _, [], hW', trodAll_mk1 (shut_bool ul_bool _), (trodAll_cons_mk (Below.trod laidOut (by kernel_rfl) (of_decide_eq_true (by kernel_rfl)) k0 bel lt0) trodAll_mk0), rfl, bel.frame _, fun h => by cases h⟩
theorem knownLeast_k10 : (Rows.knownLeastRow.inPlace == Tryz.prog.inPlace 14) = true := by kernel_rfl
theorem knownLeast_k11 : (Rows.knownLeastRow.unfollowed == Tryz.prog.unfollowed 14) = true := by kernel_rfl
theorem knownLeast_k12 : (Rows.knownLeastRow.recurses == Tryz.prog.recurses 14) = true := by kernel_rfl
theorem knownLeast_k13 : (Rows.knownLeastRow.named == Tryz.prog.varsNamed 14) = true := by kernel_rfl
theorem knownLeast_k22 : (Rows.knownLeastRow.plainKeys == Tryz.prog.plainKeys) = true := by kernel_rfl
theorem knownLeast_k24b : (Rows.knownLeastRow.lifted == Tryz.prog.liftsFinal) = true := by kernel_rfl
theorem knownLeast_closed : joinedFacts Tryz.prog 14 Tryz.f14 Rows.knownLeastSpec Rows.knownLeastRow = true :=
  and2 (and2 (and2 (and2 (and2 (and2 (and2 (and2 (and2 (and2 (and2 (and2 (and2 (and2 (and2 (and2 (and2 (and2 (and2 (and2 (and2 (and2 (and2 (and2 (and2 (and2 (and2 (and2 (and2 (and2 (and2 (by kernel_rfl) laidOut) mapsRowed_ok) (by kernel_rfl)) (by kernel_rfl)) (by kernel_rfl)) (by kernel_rfl)) (by kernel_rfl)) (by kernel_rfl)) knownLeast_k10) knownLeast_k11) knownLeast_k12) knownLeast_k13) (by kernel_rfl)) (by kernel_rfl)) (by kernel_rfl)) (by kernel_rfl)) (by kernel_rfl)) (by kernel_rfl)) (by kernel_rfl)) (by kernel_rfl)) (by kernel_rfl)) knownLeast_k22) (by kernel_rfl)) stopsHeard_ok) mayEnter_ok) knownLeast_k24b) (by kernel_rfl)) (by kernel_rfl)) (by kernel_rfl)) (by kernel_rfl)) (by kernel_rfl)
theorem knownLeast_fnamed : Tryz.pinned.checked.prog.funcNamed Rows.knownLeastRow.func = some 14 := by kernel_rfl
theorem knownLeast_inst : Tryz.f14.isInstance Tryz.pinned.checked.prog Rows.knownLeastRow.origin Rows.knownLeastRow.targs := of_decide_eq_true (by kernel_rfl)
theorem knownLeast_wrap : Tryz.f14.isWrapper Tryz.pinned.checked.prog Rows.knownLeastRow.wrapper Rows.knownLeastRow.mainSum := by
  unfold Func.isWrapper; first | (rw [if_pos (by decide +kernel)]; kernel_rfl) | (rw [if_neg (by decide +kernel)]; exact ⟨rfl, rfl⟩)
theorem knownLeast_over : Rows.knownLeastRow.holds Tryz.pinned (OpenSpec.ofChange Rows.knownLeastSpec) :=
  OpenClaim.holds_of_wide 14 Tryz.f14 rfl rfl rfl rfl rfl rfl rfl ⟨rfl, rfl, rfl, rfl, rfl⟩ rfl rfl rfl rfl rfl knownLeast_fnamed Tryz.func14 knownLeast_closed knownLeast_inst knownLeast_wrap
    (fun os started H enc _ => knownLeast_lifted os started H enc)
theorem knownLeast_holds : Rows.KnownLeastSaid := knownLeast_over
end Go.Proofs.YtdecgkhdbfgldaaGreat

