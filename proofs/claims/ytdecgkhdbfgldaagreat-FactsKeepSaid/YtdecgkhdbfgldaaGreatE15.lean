/- Part 15 of the proof: Rdc. -/
import Derived.Test.YtdecgkhdbfgldaaGreatE14
set_option linter.unusedVariables false
set_option maxRecDepth 8000
namespace Go.Proofs.YtdecgkhdbfgldaaGreat
open Go Go.RowKit
theorem rdr_sp (w : World) (n : Nat) : Rdr Tryz.prog w n 84 2 (fun p : Int × Int => [.imm (.int .i64 p.1), .imm (.int .i64 p.2)]) (fun p => i64 p.1 ∧ i64 p.2) := by
  refine Rdr.map (fun x : Int × Int × Unit => (x.1, x.2.1)) (Rdr.struct st_api_Span (fun _ => rfl) fun m hm => RdrF.cons (Rdr.int ul_int) (RdrF.cons (Rdr.int ul_int) RdrF.nil)) (fun _ => rfl) ?_ ?_
  · rintro ⟨a, b, _⟩ _; rfl
  · rintro ⟨a, b, _⟩ ⟨h1, h2, _⟩; exact ⟨h1, h2⟩
theorem rdr_ft (w : World) (n : Nat) : Rdr Tryz.prog w n 86 6 ftD Ft.wf := by
  refine Rdr.map (fun x : Tm × (Int × Int) × Unit => ⟨x.1, x.2.1.1, x.2.1.2⟩) (Rdr.struct st_api_Fact (fun _ => rfl) fun m hm => RdrF.cons (rdr_tm w m) (RdrF.cons (rdr_sp w m) RdrF.nil)) (fun _ => rfl) ?_ ?_
  · rintro ⟨a, b, _⟩ _; rfl
  · rintro ⟨a, b, _⟩ ⟨h1, h2, _⟩; exact ⟨h1, h2⟩
theorem rdr_fts (w : World) (n : Nat) : Rdr Tryz.prog w n 70 1 (fun l : List Ft => [.sl 6 (ftDs l)]) (fun l => lenOk l ∧ ∀ g ∈ l, g.wf) := by
  refine Rdr.map id (Rdr.slice sl_S_api_Fact (by decide) fun k _ => rdr_ft w k) (fun _ => rfl) (fun _ _ => rfl) ?_
  rintro l ⟨h1, h2⟩
  rw [by_api_Fact] at h1
  exact ⟨lenOk_of h1 (by decide), h2⟩
theorem rdr_kp (w : World) (n : Nat) : Rdr Tryz.prog w n 92 7 kpD Kp.wf := by
  refine Rdr.map (fun x : Int × Ft × Unit => ⟨x.1, x.2.1⟩) (Rdr.struct st_api_Kept (fun _ => rfl) fun m hm => RdrF.cons (Rdr.int ul_int) (RdrF.cons (rdr_ft w m) RdrF.nil)) (fun _ => rfl) ?_ ?_
  · rintro ⟨a, b, _⟩ _; rfl
  · rintro ⟨a, b, _⟩ ⟨h1, h2, _⟩; exact ⟨h1, h2⟩
theorem rdr_kps (w : World) (n : Nat) : Rdr Tryz.prog w n 69 1 (fun l : List Kp => [.sl 7 (kpDs l)]) (fun l => lenOk l ∧ ∀ g ∈ l, g.wf) := by
  refine Rdr.map id (Rdr.slice sl_S_api_Kept (by decide) fun k _ => rdr_kp w k) (fun _ => rfl) (fun _ _ => rfl) ?_
  rintro l ⟨h1, h2⟩
  rw [by_api_Kept] at h1
  exact ⟨lenOk_of h1 (by decide), h2⟩
theorem rdr_ints (w : World) (n : Nat) : Rdr Tryz.prog w n 71 1 (fun l : List Int => [.sl 1 (inDs l)]) (fun l => lenOk l ∧ ∀ x ∈ l, i64 x) := by
  refine Rdr.map id (Rdr.slice sl_S_int (by decide) fun k _ => Rdr.int ul_int) (fun _ => rfl) (fun _ _ => rfl) ?_
  rintro l ⟨h1, h2⟩
  rw [by_int] at h1
  exact ⟨lenOk_of h1 (by decide), h2⟩
theorem rdr_a9 (w : World) (n : Nat) : Rdr Tryz.prog w n 73 3 a9D Ask9.wf := by
  refine Rdr.map (fun x : List Kp × List Ft × List Int × Unit => ⟨x.1, x.2.1, x.2.2.1⟩) (Rdr.struct st_almagestlaw9_Ask (fun _ => rfl) fun m hm => RdrF.cons (rdr_kps w m) (RdrF.cons (rdr_fts w m) (RdrF.cons (rdr_ints w m) RdrF.nil))) (fun _ => rfl) ?_ ?_
  · rintro ⟨a, b, c, _⟩ _; rfl
  · rintro ⟨a, b, c, _⟩ ⟨h1, h2, h3, _⟩; exact ⟨h1, h2, h3⟩
end Go.Proofs.YtdecgkhdbfgldaaGreat
