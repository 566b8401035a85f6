/- What is handed in to the laws, read as plain data. -/
import Derived.Test.YtdecgkhdbfgldaaTy
import Derived.Test.YtdecgkhdbfgldaaDatb
import Derived.Test.YtdecgkhdbfgldaaSymQ
import Derived.WalkKit
import Derived.ProofKit
import Derived.OpenShut
import Derived.ShutString
import Derived.ChangeOld
import Derived.Below
import Derived.SizedLaws
set_option linter.unusedVariables false
set_option maxRecDepth 8000
namespace Go.Proofs.Ytdecgkhdbfgldaa
open Go Go.RowKit

theorem Tm.wfs_of : ∀ {l : List Tm}, (∀ t, t ∈ l → t.wf) → Tm.wfs l
  | [], _ => trivial
  | t :: l, h => ⟨(Tm.wf0_iff t).2 (h t (by simp)), Tm.wfs_of fun u hu => h u (by simp [hu])⟩
theorem rdr_tm (w : World) : ∀ n : Nat, Rdr Try.prog w n 32 4 tmD Tm.wf := by
  intro n
  induction n using Nat.strongRecOn with
  | _ n ih =>
    refine Rdr.map (fun x : Int × ByteArray × Int × List Tm × Unit => ⟨x.1, x.2.1, x.2.2.1, x.2.2.2.1⟩) (Rdr.struct st_api_Term (fun _ => rfl) fun m hm => RdrF.cons (Rdr.int ul_int) (RdrF.cons (Rdr.str ul_string) (RdrF.cons (Rdr.int ul_int) (RdrF.cons (Rdr.slice sl_S_api_Term (by decide) fun k hk => ih k (by omega)) RdrF.nil)))) tmD_length ?_ ?_
    · rintro ⟨a, b, c, l, _⟩ _
      simp only [tmD, tmDs_map]; rfl
    · rintro ⟨a, b, c, l, _⟩ ⟨h1, h2, h3, ⟨h4, h5⟩, _⟩
      rw [by_api_Term] at h4
      exact ⟨h1, h2, h3, h4, Tm.wfs_of h5⟩
theorem lenOk_of {α : Type} {l : List α} {k : Nat} (h : l.length * k ≤ 140737488351232) (hk : 0 < k) : lenOk l := Nat.le_trans (Nat.le_mul_of_pos_right _ hk) h
theorem rdr_tms (w : World) (n : Nat) : Rdr Try.prog w n 23 1 (fun l : List Tm => [.sl 4 (tmDs l)]) (fun l => lenOk l ∧ Tm.wfs l) := by
  refine Rdr.map id (Rdr.slice sl_S_api_Term (by decide) fun k _ => rdr_tm w k) (fun _ => rfl) ?_ ?_
  · intro l _; simp only [id, tmDs_map]
  · rintro l ⟨h1, h2⟩
    rw [by_api_Term] at h1
    exact ⟨lenOk_of h1 (by decide), Tm.wfs_of h2⟩
theorem rdr_gd (w : World) (n : Nat) : Rdr Try.prog w n 120 9 gdD Gd.wf := by
  refine Rdr.map (fun x : Int × Tm × Tm × Unit => ⟨x.1, x.2.1, x.2.2.1⟩) (Rdr.struct st_api_Guard (fun _ => rfl) fun m hm => RdrF.cons (Rdr.int ul_int) (RdrF.cons (rdr_tm w m) (RdrF.cons (rdr_tm w m) RdrF.nil))) (fun _ => rfl) ?_ ?_
  · rintro ⟨a, b, c, _⟩ _; rfl
  · rintro ⟨a, b, c, _⟩ ⟨h1, h2, h3, _⟩; exact ⟨h1, h2, h3⟩
theorem rdr_gds (w : World) (n : Nat) : Rdr Try.prog w n 27 1 (fun l : List Gd => [.sl 9 (gdDs l)]) (fun l => lenOk l ∧ ∀ g ∈ l, g.wf) := by
  refine Rdr.map id (Rdr.slice sl_S_api_Guard (by decide) fun k _ => rdr_gd w k) (fun _ => rfl) (fun _ _ => rfl) ?_
  rintro l ⟨h1, h2⟩
  rw [by_api_Guard] at h1
  exact ⟨lenOk_of h1 (by decide), h2⟩
theorem rdr_bd (w : World) (n : Nat) : Rdr Try.prog w n 67 5 bdD Bd.wf := by
  refine Rdr.map (fun x : ByteArray × Tm × Unit => ⟨x.1, x.2.1⟩) (Rdr.struct st_api_Bind (fun _ => rfl) fun m hm => RdrF.cons (Rdr.str ul_string) (RdrF.cons (rdr_tm w m) RdrF.nil)) (fun _ => rfl) ?_ ?_
  · rintro ⟨a, b, _⟩ _; rfl
  · rintro ⟨a, b, _⟩ ⟨h1, h2, _⟩; exact ⟨h1, h2⟩
theorem rdr_bds (w : World) (n : Nat) : Rdr Try.prog w n 62 1 (fun l : List Bd => [.sl 5 (bdDs l)]) (fun l => lenOk l ∧ ∀ g ∈ l, g.wf) := by
  refine Rdr.map id (Rdr.slice sl_S_api_Bind (by decide) fun k _ => rdr_bd w k) (fun _ => rfl) (fun _ _ => rfl) ?_
  rintro l ⟨h1, h2⟩
  rw [by_api_Bind] at h1
  exact ⟨lenOk_of h1 (by decide), h2⟩
theorem rdr_bdls (w : World) (n : Nat) : Rdr Try.prog w n 26 1 (fun l : List (List Bd) => [.sl 1 (bdlDs l)]) (fun l => lenOk l ∧ ∀ b ∈ l, lenOk b ∧ ∀ g ∈ b, g.wf) := by
  refine Rdr.map id (Rdr.slice sl_S_S_api_Bind (by decide) fun k _ => rdr_bds w k) (fun _ => rfl) (fun _ _ => rfl) ?_
  rintro l ⟨h1, h2⟩
  rw [by_S_api_Bind] at h1
  exact ⟨lenOk_of h1 (by decide), h2⟩
theorem rdr_cl (w : World) (n : Nat) : Rdr Try.prog w n 156 6 clD Cl.wf := by
  refine Rdr.map (fun x : Tm × List Tm × List Gd × Unit => ⟨x.1, x.2.1, x.2.2.1⟩) (Rdr.struct st_api_Clause (fun _ => rfl) fun m hm => RdrF.cons (rdr_tm w m) (RdrF.cons (rdr_tms w m) (RdrF.cons (rdr_gds w m) RdrF.nil))) (fun _ => rfl) ?_ ?_
  · rintro ⟨a, b, c, _⟩ _; rfl
  · rintro ⟨a, b, c, _⟩ ⟨h1, h2, h3, _⟩; exact ⟨h1, h2, h3⟩
theorem rdr_cls (w : World) (n : Nat) : Rdr Try.prog w n 22 1 (fun l : List Cl => [.sl 6 (clDs l)]) (fun l => lenOk l ∧ ∀ g ∈ l, g.wf) := by
  refine Rdr.map id (Rdr.slice sl_S_api_Clause (by decide) fun k _ => rdr_cl w k) (fun _ => rfl) (fun _ _ => rfl) ?_
  rintro l ⟨h1, h2⟩
  rw [by_api_Clause] at h1
  exact ⟨lenOk_of h1 (by decide), h2⟩
theorem rdr_a11 (w : World) (n : Nat) : Rdr Try.prog w n 25 3 a11D Ask11.wf := by
  refine Rdr.map (fun x : List Cl × List Tm × List Tm × Unit => ⟨x.1, x.2.1, x.2.2.1⟩) (Rdr.struct st_almagestlaw11_Ask (fun _ => rfl) fun m hm => RdrF.cons (rdr_cls w m) (RdrF.cons (rdr_tms w m) (RdrF.cons (rdr_tms w m) RdrF.nil))) (fun _ => rfl) ?_ ?_
  · rintro ⟨a, b, c, _⟩ _; rfl
  · rintro ⟨a, b, c, _⟩ ⟨h1, h2, h3, _⟩; exact ⟨h1, h2, h3⟩
theorem rdr_a12 (w : World) (n : Nat) : Rdr Try.prog w n 29 5 a12D Ask12.wf := by
  refine Rdr.map (fun x : Ask11 × List (List Bd) × List Gd × Unit => ⟨x.1, x.2.1, x.2.2.1⟩) (Rdr.struct st_almagestlaw12_Ask (fun _ => rfl) fun m hm => RdrF.cons (rdr_a11 w m) (RdrF.cons (rdr_bdls w m) (RdrF.cons (rdr_gds w m) RdrF.nil))) (fun _ => rfl) ?_ ?_
  · rintro ⟨a, b, c, _⟩ _; rfl
  · rintro ⟨a, b, c, _⟩ ⟨h1, h2, h3, _⟩; exact ⟨h1, h2, h3⟩
end Go.Proofs.Ytdecgkhdbfgldaa
