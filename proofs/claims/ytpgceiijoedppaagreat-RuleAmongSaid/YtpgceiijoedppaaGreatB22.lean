/- Part 22 of the proof: Rdd, Rde. -/
import Derived.Test.YtpgceiijoedppaaGreatB21
set_option linter.unusedVariables false
set_option maxRecDepth 8000
namespace Go.Proofs.YtpgceiijoedppaaGreat
open Go Go.RowKit
theorem Pt.wfs_of {l : List Pt} (h : ∀ t, t ∈ l → t.wf) : Pt.wfs l := Pt.wfs_iff.2 h
theorem rdr_pt (w : World) : ∀ n : Nat, Rdr Tryz.prog w n 36 9 ptD Pt.wf := by
  intro n
  induction n using Nat.strongRecOn with
  | _ n ih =>
    refine Rdr.map (fun x : Int × Tm × Int × List Pt × List Pt × List Pt × Unit => ⟨x.1, x.2.1, x.2.2.1, x.2.2.2.1, x.2.2.2.2.1, x.2.2.2.2.2.1⟩) (Rdr.struct st_api_Pattern (fun _ => rfl) fun m hm => RdrF.cons (Rdr.int ul_int) (RdrF.cons (rdr_tm w m) (RdrF.cons (Rdr.int ul_int) (RdrF.cons (Rdr.slice qG zD fun k hk => ih k (by omega)) (RdrF.cons (Rdr.slice qG zD fun k hk => ih k (by omega)) (RdrF.cons (Rdr.slice qG zD fun k hk => ih k (by omega)) RdrF.nil)))))) ptD_length ?_ ?_
    · rintro ⟨a, b, c, l, r, q, _⟩ _
      simp only [ptD, ptDs_map]; rfl
    · rintro ⟨a, b, c, l, r, q, _⟩ ⟨h1, h2, h3, ⟨h4, h5⟩, ⟨h6, h7⟩, ⟨h8, h9⟩, _⟩
      rw [by_api_Pattern] at h4 h6 h8
      exact ⟨h1, h2, h3, ⟨qdU h4 zD, Pt.wfs_of h5⟩, ⟨qdU h6 zD, Pt.wfs_of h7⟩, qdU h8 zD, Pt.wfs_of h9⟩
theorem rdr_pts (w : World) (n : Nat) : Rdr Tryz.prog w n 23 1 (fun l : List Pt => [.sl 9 (ptDs l)]) (fun l => qba l ∧ Pt.wfs l) := by
 refine Rdr.map id (Rdr.slice qG zD fun k _ => rdr_pt w k) (fun _ => rfl) ?_ ?_
 ·intro l _; simp only [id, ptDs_map]
 ·rintro l ⟨h1, h2⟩
  rw [by_api_Pattern] at h1
  exact ⟨qdU h1 zD, Pt.wfs_of h2⟩
theorem rdr_mt (w : World) (n : Nat) : Rdr Tryz.prog w n 55 4 mtD Mt.wf := by
 refine Rdr.map (fun x : List Bd × (Int × Int) × List Int × Unit => ⟨x.1, x.2.1.1, x.2.1.2, x.2.2.1⟩) (Rdr.struct st_api_Match (fun _ => rfl) fun m hm => RdrF.cons (rdr_bds w m) (RdrF.cons (rdr_sp w m) (RdrF.cons (rdr_ints w m) RdrF.nil))) (fun _ => rfl) ?_ ?_
 ·rintro ⟨a, b, c, _⟩ _; rfl
 ·rintro ⟨a, b, c, _⟩ ⟨h1, h2, h3, _⟩; exact ⟨h1, h2, h3⟩
theorem rdr_mts (w : World) (n : Nat) : Rdr Tryz.prog w n 24 1 (fun l : List Mt => [.sl 4 (mtDs l)]) (fun l => qba l ∧ ∀ g ∈ l, g.wf) := by
 refine Rdr.map id (Rdr.slice qz zD fun k _ => rdr_mt w k) (fun _ => rfl) (fun _ _ => rfl) ?_
 rintro l ⟨h1, h2⟩
 rw [by_api_Match] at h1
 exact ⟨qdU h1 zD, h2⟩
theorem rdr_rl (w : World) (n : Nat) : Rdr Tryz.prog w n 39 16 rlD Rl.wf := by
 refine Rdr.map (fun x : Tm × Pt × List Gd × Int × Int × Unit => ⟨x.1, x.2.1, x.2.2.1, x.2.2.2.1, x.2.2.2.2.1⟩) (Rdr.struct st_api_Rule (fun _ => rfl) fun m hm => RdrF.cons (rdr_tm w m) (RdrF.cons (rdr_pt w m) (RdrF.cons (rdr_gds w m) (RdrF.cons (Rdr.int ul_int) (RdrF.cons (Rdr.int ul_int) RdrF.nil))))) (fun _ => rfl) ?_ ?_
 ·rintro ⟨a, b, c, d, e, _⟩ _; rfl
 ·rintro ⟨a, b, c, d, e, _⟩ ⟨h1, h2, h3, h4, h5, _⟩; exact ⟨h1, h2, h3, h4, h5⟩
theorem rdr_rls (w : World) (n : Nat) : Rdr Tryz.prog w n 28 1 (fun l : List Rl => [.sl 16 (rlDs l)]) (fun l => qba l ∧ ∀ g ∈ l, g.wf) := by
 refine Rdr.map id (Rdr.slice qdk zD fun k _ => rdr_rl w k) (fun _ => rfl) (fun _ _ => rfl) ?_
 rintro l ⟨h1, h2⟩
 rw [by_api_Rule] at h1
 exact ⟨qdU h1 zD, h2⟩
theorem rdr_a13 (w : World) (n : Nat) : Rdr Tryz.prog w n 26 4 a13D Ask13.wf := by
 refine Rdr.map (fun x : List Kp × List Pt × Int × List Mt × Unit => ⟨x.1, x.2.1, x.2.2.1, x.2.2.2.1⟩) (Rdr.struct st_almagestlaw13_Ask (fun _ => rfl) fun m hm => RdrF.cons (rdr_kps w m) (RdrF.cons (rdr_pts w m) (RdrF.cons (Rdr.int ul_int) (RdrF.cons (rdr_mts w m) RdrF.nil)))) (fun _ => rfl) ?_ ?_
 ·rintro ⟨a, b, c, d, _⟩ _; rfl
 ·rintro ⟨a, b, c, d, _⟩ ⟨h1, h2, h3, h4, _⟩; exact ⟨h1, h2, h3, h4⟩
theorem rdr_a14 (w : World) (n : Nat) : Rdr Tryz.prog w n 31 7 a14D Ask14.wf := by
 refine Rdr.map (fun x : Ask13 × List Tm × List Rl × List Int × Unit => ⟨x.1, x.2.1, x.2.2.1, x.2.2.2.1⟩) (Rdr.struct st_almagestlaw14_Ask (fun _ => rfl) fun m hm => RdrF.cons (rdr_a13 w m) (RdrF.cons (rdr_tms w m) (RdrF.cons (rdr_rls w m) (RdrF.cons (rdr_ints w m) RdrF.nil)))) (fun _ => rfl) ?_ ?_
 ·rintro ⟨a, b, c, d, _⟩ _; rfl
 ·rintro ⟨a, b, c, d, _⟩ ⟨h1, h2, h3, h4, _⟩; exact ⟨h1, h2, h3, h4⟩
end Go.Proofs.YtpgceiijoedppaaGreat
