/- From a contract on plain data to the call that a row speaks of. -/
import Derived.Test.YtdecgkhdbfgldaaRd
import Derived.Test.YtdecgkhdbfgldaaFa
set_option linter.unusedVariables false
set_option maxRecDepth 8000
namespace Go.Proofs.Ytdecgkhdbfgldaa
open Go Go.RowKit

theorem top_calls {f : FuncId} {ds : List D} {w : World} {cs : Array Value} (h : PF f [.agg (lift false ds)] (bv true)) (hr : RepVs w (Here w) ds cs.toList) : Calls Try.prog f #[.agg cs] w fun e w' => e = .returned (.bool true) ∧ Below w.heap.size w w' := by
  let c : Ctx := ⟨w, fun _ => False, Here w, fun _ => undef, fun _ => False⟩
  let S : Bool → Nat → Prop := fun f b => f = false ∧ b < w.heap.size
  have e0 : (fun b => S false b) = Here w := funext fun b => propext ⟨fun h => h.2, fun h => ⟨rfl, h⟩⟩
  have e1 : S false = Here w := e0
  obtain ⟨h1, h2⟩ := RepVs.rep (w := w) (ρ := fun _ => undef) (S := S) (U := St.U ⟨argT 0 [.agg (lift false ds)], []⟩) (ds := ds) (vs := cs.toList) (by rw [e1]; exact hr)
  have hrep : Rep w (fun _ => undef) S (St.U ⟨argT 0 [.agg (lift false ds)], []⟩) (.agg (lift false ds)) (.agg cs) := by
    simp only [Rep]
    exact ⟨cs.toList, by simp, h2, h1⟩
  have hc : Conc c 1 ⟨argT 0 [.agg (lift false ds)], []⟩ ⟨#[.agg cs], []⟩ w (fun _ => undef) S := by
    refine ⟨rfl, rfl, fun t v ht => ?_, fun l o hl => (by simp [ok] at hl), fun l l' o o' b hl => (by simp [ok] at hl), fun l o b f hl => (by simp [ok] at hl), fun l o b hl => (by simp [ok] at hl), fun l o b hl => (by simp [ok] at hl), fun b hb => (by cases hb.1.1), fun f b hb => hb.2, fun b hb => (by cases hb.1), fun b hb => .inl hb.2, fun l hl => hl.elim, Far.refl _ _⟩
    simp only [argT, lk_cons] at ht
    split at ht
    · rename_i e; subst e; simp only [Option.some.injEq] at ht; subst ht; exact hrep
    · simp [lk] at ht
  refine (h c w [.agg cs] (fun _ => undef) S rfl (fun l => ⟨fun h => h.elim, fun h => by simp [inD, ok] at h⟩) (fun b hb => by cases hb.1) hc).mono ?_
  rintro e w' ⟨v, r, O', rfl, ⟨rfl, rfl⟩, ρ', S', hc'⟩
  have hv := hc'.T 0 _ rfl
  simp only [Rep] at hv
  have hv' : v = .bool true := by simpa using hv
  subst hv'
  have hf := hc'.fm
  exact ⟨rfl, hf.os, hf.tape, hf.output, hf.size, fun b hb => hf.block b hb (fun h => h)⟩

theorem own : ownKnob Try.prog.godebug = none := by kernel_rfl
theorem laidOut : laidOutB Try.prog = true := by kernel_rfl
end Go.Proofs.Ytdecgkhdbfgldaa
