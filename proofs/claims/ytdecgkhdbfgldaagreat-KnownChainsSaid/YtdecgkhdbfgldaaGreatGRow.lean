/- The row. -/
import Derived.Test.YtdecgkhdbfgldaaGreatG11
import Derived.Test.YtdecgkhdbfgldaaGreatRows
set_option linter.unusedVariables false
namespace Go.Proofs.YtdecgkhdbfgldaaGreat
open Go Go.ChangeShapes Go.WideShapes Go.ChangeAt Go.RowKit
set_option maxRecDepth 100000 in
theorem knownChains_lifted (os : Os) (started : os.Started) (H : Type) (enc : TypeId × Value → H) :
    ReturnsInHanded {} Tryz.checked os 15 .any (Rows.knownChainsSpec.pre6 enc Tryz.prog Tryz.f15 Rows.knownChainsRow.domain false) (Rows.knownChainsSpec.post enc Tryz.prog Tryz.f15 false true false false) := by
  refine returnsInHanded_of_change_sized (C := Tryz.checked) own started (by kernel_rfl) Tryz.func15
    (ChangeSpec.witness6 (enc := enc) (C := Tryz.checked) false ⟨#[], #[.agg #[.slice none 0 0, .slice none 0 0, .slice none 0 0]], []⟩ 8 (by kernel_rfl) (by kernel_rfl) (by kernel_rfl) (by kernel_rfl)) ?_
  intro W base args ds gs before hval0 hW hcnd hsz0 _
  have hsz : (DataW.weightsEach Tryz.prog (Tryz.f15.params.toList ++ Rows.knownChainsSpec.plain.varTypes Tryz.prog) (ds ++ gs)).all (· ≤ reachBytes) = true := hsz0
  have hval : ∀ (j : Nat) t v, Tryz.f15.params[j]? = some t → args[j]? = some v → Value.okWide Tryz.prog W .any base t v := hval0
  have hW' := hW
  obtain ⟨p, q, hA0, hV, rfl, hfz, hnd⟩ := hW
  have hA : DataW.TrodAll enc Tryz.prog W 0 (fun _ => true) true Tryz.f15.params.toList args.toList ds p := hA0
  rw [Tryz.params15] at hA hval hsz
  obtain ⟨v0, vs0, d0, ds0, p0, q0, hargs, rfl, rfl, h0, r0⟩ := trodAll_cons hA
  obtain ⟨rfl, rfl, rfl⟩ := trodAll_nil r0
  obtain rfl : args = #[v0] := by cases args; simp_all
  obtain ⟨rfl, rfl⟩ := trodVars_none hV
  have hv := hval 0 61 v0 rfl rfl
  obtain ⟨gs0, hst⟩ := stB_struct st_almagestlaw11_Ask
  obtain ⟨cs, rfl, _, _⟩ : ∃ cs, v0 = .agg cs ∧ cs.size = Tryz.prog.cellsOf 61 ∧ Row.okWide Tryz.prog W .any base 61 cs := by
    unfold Value.okWide at hv
    rw [hst] at hv
    exact hv
  have k0 := h0
  have lt0 : ∀ x ∈ p0, x.block < W.heap.size := by obtain ⟨m, hm⟩ := k0; exact DataW.trod_lt m _ _ _ hm
  obtain ⟨fuel, hf⟩ := h0
  have hsz1 : (d0.weights Tryz.prog 61).all (· ≤ reachBytes) = true := by
    have h2 := hsz
    simp only [List.cons_append, List.nil_append, DataW.weightsEach, List.all_append, Bool.and_eq_true] at h2
    exact h2.1
  obtain ⟨p, hp, hr⟩ := (rdr_a11 W fuel).rd H enc _ _ _ hf hsz1
  clear hA0 hval0 hsz0 hsz
  refine (top_calls (KnownChains_ok p hp) hr).mono fun e W' ⟨he, bel⟩ => ?_
  subst he
  exact ⟨_, rfl, _, _, _, [], _, [], hW', trodAll_mk1 (shut_bool ul_bool _), (trodAll_cons_mk (Below.trod laidOut (by kernel_rfl) (of_decide_eq_true (by kernel_rfl)) k0 bel lt0) trodAll_mk0), rfl, bel.frame _, fun h => by cases h⟩
theorem knownChains_k10 : (Rows.knownChainsRow.inPlace == Tryz.prog.inPlace 15) = true := by kernel_rfl
theorem knownChains_k11 : (Rows.knownChainsRow.unfollowed == Tryz.prog.unfollowed 15) = true := by kernel_rfl
theorem knownChains_k12 : (Rows.knownChainsRow.recurses == Tryz.prog.recurses 15) = true := by kernel_rfl
theorem knownChains_k13 : (Rows.knownChainsRow.named == Tryz.prog.varsNamed 15) = true := by kernel_rfl
theorem knownChains_k22 : (Rows.knownChainsRow.plainKeys == Tryz.prog.plainKeys) = true := by kernel_rfl
theorem knownChains_k24b : (Rows.knownChainsRow.lifted == Tryz.prog.liftsFinal) = true := by kernel_rfl
theorem knownChains_closed : joinedFacts Tryz.prog 15 Tryz.f15 Rows.knownChainsSpec Rows.knownChainsRow = true :=
  and2 (and2 (and2 (and2 (and2 (and2 (and2 (and2 (and2 (and2 (and2 (and2 (and2 (and2 (and2 (and2 (and2 (and2 (and2 (and2 (and2 (and2 (and2 (and2 (and2 (and2 (and2 (and2 (and2 (and2 (and2 (by kernel_rfl) laidOut) mapsRowed_ok) (by kernel_rfl)) (by kernel_rfl)) (by kernel_rfl)) (by kernel_rfl)) (by kernel_rfl)) (by kernel_rfl)) knownChains_k10) knownChains_k11) knownChains_k12) knownChains_k13) (by kernel_rfl)) (by kernel_rfl)) (by kernel_rfl)) (by kernel_rfl)) (by kernel_rfl)) (by kernel_rfl)) (by kernel_rfl)) (by kernel_rfl)) (by kernel_rfl)) knownChains_k22) (by kernel_rfl)) stopsHeard_ok) mayEnter_ok) knownChains_k24b) (by kernel_rfl)) (by kernel_rfl)) (by kernel_rfl)) (by kernel_rfl)) (by kernel_rfl)
theorem knownChains_fnamed : Tryz.pinned.checked.prog.funcNamed Rows.knownChainsRow.func = some 15 := by kernel_rfl
theorem knownChains_inst : Tryz.f15.isInstance Tryz.pinned.checked.prog Rows.knownChainsRow.origin Rows.knownChainsRow.targs := of_decide_eq_true (by kernel_rfl)
theorem knownChains_wrap : Tryz.f15.isWrapper Tryz.pinned.checked.prog Rows.knownChainsRow.wrapper Rows.knownChainsRow.mainSum := by
  unfold Func.isWrapper; first | (rw [if_pos (by decide +kernel)]; kernel_rfl) | (rw [if_neg (by decide +kernel)]; exact ⟨rfl, rfl⟩)
theorem knownChains_over : Rows.knownChainsRow.holds Tryz.pinned (OpenSpec.ofChange Rows.knownChainsSpec) :=
  OpenClaim.holds_of_wide 15 Tryz.f15 rfl rfl rfl rfl rfl rfl rfl ⟨rfl, rfl, rfl, rfl, rfl⟩ rfl rfl rfl rfl rfl knownChains_fnamed Tryz.func15 knownChains_closed knownChains_inst knownChains_wrap
    (fun os started H enc _ => knownChains_lifted os started H enc)
theorem knownChains_holds : Rows.KnownChainsSaid := knownChains_over
end Go.Proofs.YtdecgkhdbfgldaaGreat

