/- The row. -/
import Derived.Test.YtpgceiijoedppaaGreatB22
import Derived.Test.YtpgceiijoedppaaGreatRows
set_option linter.unusedVariables false
namespace Go.Proofs.YtpgceiijoedppaaGreat
open Go Go.ChangeShapes Go.WideShapes Go.ChangeAt Go.RowKit
set_option maxRecDepth 100000 in
theorem ruleAmong_lifted (os : Os) (started : os.Started) (H : Type) (enc : TypeId × Value → H) :
  ReturnsInHanded {} Tryz.checked os 3 .any (Rows.ruleAmongSpec.pre6 enc Tryz.prog Tryz.f3 Rows.ruleAmongRow.domain false) (Rows.ruleAmongSpec.post enc Tryz.prog Tryz.f3 false true false false) := by
 refine returnsInHanded_of_change_sized (C := Tryz.checked) own started (by kernel_rfl) Tryz.func3
  (ChangeSpec.witness6 (enc := enc) (C := Tryz.checked) false ⟨#[], #[.agg #[.slice none 0 0, .slice none 0 0, .int .i64 0, .slice none 0 0, .slice none 0 0, .slice none 0 0, .slice none 0 0]], []⟩ 8 (by kernel_rfl) (by kernel_rfl) (by kernel_rfl) (by kernel_rfl)) ?_
 intro W base args ds gs before hval0 hW hcnd hsz0 _
 have hsz : (DataW.weightsEach Tryz.prog (Tryz.f3.params.toList ++ Rows.ruleAmongSpec.plain.varTypes Tryz.prog) (ds ++ gs)).all (· ≤ reachBytes) = true := hsz0
 have hval : ∀ (j : Nat) t v, Tryz.f3.params[j]? = some t → args[j]? = some v → Value.okWide Tryz.prog W .any base t v := hval0
 have hW' := hW
 obtain ⟨p, q, hA0, hV, rfl, hfz, hnd⟩ := hW
 have hA : DataW.TrodAll enc Tryz.prog W 0 (fun _ => true) true Tryz.f3.params.toList args.toList ds p := hA0
 rw [Tryz.params3] at hA hval hsz
 obtain ⟨v0, vs0, d0, ds0, p0, q0, hargs, rfl, rfl, h0, r0⟩ := trodAll_cons hA
 obtain ⟨rfl, rfl, rfl⟩ := trodAll_nil r0
 obtain rfl : args = #[v0] := by cases args; simp_all
 obtain ⟨rfl, rfl⟩ := trodVars_none hV
 have hv := hval 0 31 v0 E E
 obtain ⟨gs0, hst⟩ := stB_struct st_almagestlaw14_Ask
 obtain ⟨cs, rfl, _, _⟩ : ∃ cs, v0 = .agg cs ∧ cs.size = Tryz.prog.cellsOf 31 ∧ Row.okWide Tryz.prog W .any base 31 cs := by
  unfold Value.okWide at hv
  rw [hst] at hv
  exact hv
 have k0 := h0
 have lt0 : ∀ x ∈ p0, x.block < W.heap.size := by obtain ⟨m, hm⟩ := k0; exact DataW.trod_lt m _ _ _ hm
 obtain ⟨fuel, hf⟩ := h0
 have hsz1 : (d0.weights Tryz.prog 31).all (· ≤ reachBytes) = true := by
  have h2 := hsz
  simp only [List.cons_append, List.nil_append, DataW.weightsEach, List.all_append, Bool.and_eq_true] at h2
  exact h2.1
 obtain ⟨p, hp, hr⟩ := (rdr_a14 W fuel).rd H enc _ _ _ hf hsz1
 clear hA0 hval0 hsz0 hsz
 refine (top_calls (RuleAmong_ok p hp) hr).mono fun e W' ⟨he, bel⟩ => ?_
 subst he
 exact ⟨_, rfl, _, _, _, [], _, [], hW', trodAll_mk1 (shut_bool ul_bool _), (trodAll_cons_mk (Below.trod laidOut (by kernel_rfl) (of_decide_eq_true (by kernel_rfl)) k0 bel lt0) trodAll_mk0), rfl, bel.frame _, fun h => by cases h⟩
theorem ruleAmong_k10 : (Rows.ruleAmongRow.inPlace == Tryz.prog.inPlace 3) = true := by kernel_rfl
theorem ruleAmong_k11 : (Rows.ruleAmongRow.unfollowed == Tryz.prog.unfollowed 3) = true := by kernel_rfl
theorem ruleAmong_k12 : (Rows.ruleAmongRow.recurses == Tryz.prog.recurses 3) = true := by kernel_rfl
theorem ruleAmong_k13 : (Rows.ruleAmongRow.named == Tryz.prog.varsNamed 3) = true := by kernel_rfl
theorem ruleAmong_k22 : (Rows.ruleAmongRow.plainKeys == Tryz.prog.plainKeys) = true := by kernel_rfl
theorem ruleAmong_k24b : (Rows.ruleAmongRow.lifted == Tryz.prog.liftsFinal) = true := by kernel_rfl
theorem ruleAmong_closed : joinedFacts Tryz.prog 3 Tryz.f3 Rows.ruleAmongSpec Rows.ruleAmongRow = true :=
 and2 (and2 (and2 (and2 (and2 (and2 (and2 (and2 (and2 (and2 (and2 (and2 (and2 (and2 (and2 (and2 (and2 (and2 (and2 (and2 (and2 (and2 (and2 (and2 (and2 (and2 (and2 (and2 (and2 (and2 (and2 (by kernel_rfl) laidOut) mapsRowed_ok) (by kernel_rfl)) (by kernel_rfl)) (by kernel_rfl)) (by kernel_rfl)) (by kernel_rfl)) (by kernel_rfl)) ruleAmong_k10) ruleAmong_k11) ruleAmong_k12) ruleAmong_k13) (by kernel_rfl)) (by kernel_rfl)) (by kernel_rfl)) (by kernel_rfl)) (by kernel_rfl)) (by kernel_rfl)) (by kernel_rfl)) (by kernel_rfl)) (by kernel_rfl)) ruleAmong_k22) (by kernel_rfl)) stopsHeard_ok) mayEnter_ok) ruleAmong_k24b) (by kernel_rfl)) (by kernel_rfl)) (by kernel_rfl)) (by kernel_rfl)) (by kernel_rfl)
theorem ruleAmong_fnamed : Tryz.pinned.checked.prog.funcNamed Rows.ruleAmongRow.func = some 3 := by kernel_rfl
theorem ruleAmong_inst : Tryz.f3.isInstance Tryz.pinned.checked.prog Rows.ruleAmongRow.origin Rows.ruleAmongRow.targs := of_decide_eq_true (by kernel_rfl)
theorem ruleAmong_wrap : Tryz.f3.isWrapper Tryz.pinned.checked.prog Rows.ruleAmongRow.wrapper Rows.ruleAmongRow.mainSum := by
 unfold Func.isWrapper; first | (rw [if_pos (by decide +kernel)]; kernel_rfl) | (rw [if_neg (by decide +kernel)]; exact ⟨rfl, rfl⟩)
theorem ruleAmong_over : Rows.ruleAmongRow.holds Tryz.pinned (OpenSpec.ofChange Rows.ruleAmongSpec) :=
 OpenClaim.holds_of_wide 3 Tryz.f3 E E E E E E E ⟨rfl, rfl, rfl, rfl, rfl⟩ E E E E E ruleAmong_fnamed Tryz.func3 ruleAmong_closed ruleAmong_inst ruleAmong_wrap
  (fun os started H enc _ => ruleAmong_lifted os started H enc)
theorem ruleAmong_holds : Rows.RuleAmongSaid := ruleAmong_over
end Go.Proofs.YtpgceiijoedppaaGreat

