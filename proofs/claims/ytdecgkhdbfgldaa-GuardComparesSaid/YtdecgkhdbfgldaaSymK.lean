/- Plain proof kit of this session, eleventh part: objects by other numbers. -/
import Derived.Test.YtdecgkhdbfgldaaSymJ
set_option linter.unusedVariables false
set_option linter.unusedSimpArgs false
namespace Go.Proofs.Ytdecgkhdbfgldaa
open Go

def swp (a b n : Nat) : Nat := bif Nat.beq n a then b else bif Nat.beq n b then a else n
theorem beq_ite {α : Type} (n a : Nat) (x y : α) : (bif Nat.beq n a then x else y) = if n = a then x else y := by
  by_cases h : n = a
  · subst h; simp
  · rw [Nat.beq_eq_false h, if_neg h]; rfl
theorem swp_swp (a b n : Nat) : swp a b (swp a b n) = n := by
  simp only [swp, beq_ite]
  by_cases h1 : n = a <;> by_cases h2 : n = b <;> simp_all

mutual
def AV.rn (π : Nat → Nat) : AV → AV
  | .any => .any
  | .imm v => .imm v
  | .dat f k es => .dat f k es
  | .agg cs => .agg (AV.rns π cs)
  | .ptr l off => .ptr (π l) off
  | .elp f ds => .elp f ds
  | .row l => .row (π l)
  | .fn f cs => .fn f (AV.rns π cs)
  | .map l => .map (π l)
  | .tup cs => .tup (AV.rns π cs)
def AV.rns (π : Nat → Nat) : List AV → List AV
  | [] => []
  | v :: vs => AV.rn π v :: AV.rns π vs
end
def Ob.rn (π : Nat → Nat) : Ob → Ob
  | .box cs => .box (AV.rns π cs)
  | .row e k cs => .row e k (AV.rns π cs)
  | .rowd e k f es => .rowd e k f es
  | .mp ss => .mp ss
  | .dead => .dead
def rnO (π : Nat → Nat) : List (Nat × Ob) → List (Nat × Ob)
  | [] => []
  | (l, o) :: O => (π l, o.rn π) :: rnO π O
def rnT (π : Nat → Nat) : List (Nat × AV) → List (Nat × AV)
  | [] => []
  | (t, v) :: T => (t, v.rn π) :: rnT π T

theorem lift_rn (π : Nat → Nat) (f : Bool) : ∀ ds : List D, AV.rns π (lift f ds) = lift f ds
  | [] => rfl
  | d :: ds => by
    simp only [lift, List.map_cons, AV.rns]
    have := lift_rn π f ds
    simp only [lift] at this
    rw [this]
    cases d <;> rfl

theorem lk_rnT (π : Nat → Nat) : ∀ (T : List (Nat × AV)) (t : Nat), lk (rnT π T) t = (lk T t).map (AV.rn π)
  | [], t => rfl
  | (s, v) :: T, t => by
    simp only [rnT, lk_cons]
    split
    · rfl
    · exact lk_rnT π T t
theorem ok_rnO {π : Nat → Nat} (hπ : ∀ n, π (π n) = n) : ∀ (O : List (Nat × Ob)) (l : Nat), ok (rnO π O) l = (ok O (π l)).map (Ob.rn π)
  | [], l => rfl
  | (s, v) :: O, l => by
    simp only [rnO, ok_cons]
    by_cases h : s = π l
    · subst h; simp [hπ]
    · have : π s ≠ l := fun e => h (by rw [← e, hπ])
      simp only [h, this, if_false]
      exact ok_rnO hπ O l
theorem argT_rn (π : Nat → Nat) : ∀ (i : Nat) (as : List AV), argT i (AV.rns π as) = rnT π (argT i as)
  | _, [] => rfl
  | i, a :: as => by simp only [AV.rns, argT, rnT, argT_rn π (i + 1) as]
theorem rns_length (π : Nat → Nat) : ∀ as : List AV, (AV.rns π as).length = as.length
  | [] => rfl
  | a :: as => by simp [AV.rns, rns_length π as]

mutual
theorem Rep.rn {w : World} {ρ : Nat → Value} {S : Bool → Nat → Prop} {U : Nat → Prop} {π : Nat → Nat} (hπ : ∀ n, π (π n) = n) : ∀ (v : AV) (x : Value), Rep w ρ S U v x → Rep w (fun l => ρ (π l)) S (fun l => U (π l)) (v.rn π) x
  | .any, x, _ => by simp [AV.rn, Rep]
  | .imm v, x, h => by simpa [AV.rn, Rep] using h
  | .dat f k es, x, h => by simpa only [AV.rn, Rep] using h
  | .agg cs, x, h => by
    simp only [AV.rn, Rep] at h ⊢
    obtain ⟨xs, hx, h1, h⟩ := h
    exact ⟨xs, hx, h1, RepL.rn hπ cs xs h⟩
  | .ptr l off, x, h => by
    simp only [AV.rn, Rep, hπ] at h ⊢
    exact h
  | .elp f ds, x, h => by simpa only [AV.rn, Rep] using h
  | .row l, x, h => by
    simp only [AV.rn, Rep, hπ] at h ⊢
    exact h
  | .fn f cs, x, h => by
    simp only [AV.rn, Rep] at h ⊢
    obtain ⟨xs, hx, h⟩ := h
    exact ⟨xs, hx, RepL.rn hπ cs xs h⟩
  | .map l, x, h => by
    simp only [AV.rn, Rep, hπ] at h ⊢
    exact h
  | .tup cs, x, h => by
    simp only [AV.rn, Rep] at h ⊢
    obtain ⟨xs, hx, h⟩ := h
    exact ⟨xs, hx, RepL.rn hπ cs xs h⟩
theorem RepL.rn {w : World} {ρ : Nat → Value} {S : Bool → Nat → Prop} {U : Nat → Prop} {π : Nat → Nat} (hπ : ∀ n, π (π n) = n) : ∀ (vs : List AV) (xs : List Value), RepL w ρ S U vs xs → RepL w (fun l => ρ (π l)) S (fun l => U (π l)) (AV.rns π vs) xs
  | [], xs, h => by simpa [AV.rns, RepL] using h
  | v :: vs, xs, h => by
    simp only [AV.rns, RepL] at h ⊢
    obtain ⟨y, ys, hx, h1, h2⟩ := h
    exact ⟨y, ys, hx, Rep.rn hπ v y h1, RepL.rn hπ vs ys h2⟩
end
theorem ObOk.rn {w : World} {ρ : Nat → Value} {S : Bool → Nat → Prop} {U : Nat → Prop} {π : Nat → Nat} (hπ : ∀ n, π (π n) = n) {l : Nat} {o : Ob} (h : ObOk w ρ S U l o) : ObOk w (fun l => ρ (π l)) S (fun l => U (π l)) (π l) (o.rn π) := by
  cases o with
  | box cs =>
    obtain ⟨b, ty, xs, h1, h2, h3, h4⟩ := h
    exact ⟨b, ty, xs, by simpa only [hπ] using h1, h2, h3, RepL.rn hπ _ _ h4⟩
  | row e k cs =>
    obtain ⟨n, xs, h1, h2, h3⟩ := h
    exact ⟨n, xs, by simpa only [hπ] using h1, h2, RepL.rn hπ _ _ h3⟩
  | rowd e k f es =>
    obtain ⟨h0, xs, h1, h2, h3⟩ := h
    have := RepL.rn hπ _ _ h3
    rw [lift_rn] at this
    exact ⟨h0, xs, by simpa only [hπ] using h1, h2, this⟩
  | mp es =>
    obtain ⟨r, h1, h2⟩ := h
    exact ⟨r, by simpa only [hπ] using h1, h2⟩
  | dead => trivial
theorem rn_live {π : Nat → Nat} (o : Ob) : (o.rn π).live ↔ o.live := by cases o <;> exact Iff.rfl

/-- The same state by other numbers. -/
theorem Conc.rn {c : Ctx} {N : Nat} {T : List (Nat × AV)} {O : List (Nat × Ob)} {a : Act} {w : World} {ρ : Nat → Value} {S : Bool → Nat → Prop} {π : Nat → Nat} (hπ : ∀ n, π (π n) = n) (h : Conc c N ⟨T, O⟩ a w ρ S) :
    Conc { c with ρ0 := fun l => c.ρ0 (π l), L := fun l => c.L (π l) } N ⟨rnT π T, rnO π O⟩ a w (fun l => ρ (π l)) S := by
  have hok : ∀ l ob, ok (rnO π O) l = some ob → ∃ ob', ok O (π l) = some ob' ∧ ob = ob'.rn π := fun l ob hl => by
    rw [ok_rnO hπ] at hl
    obtain ⟨ob', h1, h2⟩ := Option.map_eq_some_iff.1 hl
    exact ⟨ob', h1, h2.symm⟩
  have hU : ∀ l, St.U ⟨T, O⟩ (π l) ↔ St.U ⟨rnT π T, rnO π O⟩ l := fun l => by simp only [St.U, ok_rnO hπ, Option.isSome_map]
  have hU' : (fun l => St.U ⟨T, O⟩ (π l)) = St.U ⟨rnT π T, rnO π O⟩ := funext fun l => propext (hU l)
  refine ⟨h.tm, h.df, fun t v ht => ?_, fun l ob hl => ?_, fun l l' ob ob' b h1 h2 h3 h4 h5 h6 => ?_, fun l ob b f h1 h2 h3 => ?_, fun l ob b h1 h2 h3 => ?_, fun l ob b h1 h2 h3 => ?_, h.SS, h.Sb, h.Sn, h.So, fun l hl => ?_, ?_⟩
  · rw [show (St.mk (rnT π T) (rnO π O)).T = rnT π T from rfl, lk_rnT] at ht
    obtain ⟨u, hu, rfl⟩ := Option.map_eq_some_iff.1 ht
    rw [← hU']
    exact Rep.rn hπ u _ (h.T t u hu)
  · obtain ⟨ob', h1, rfl⟩ := hok l ob hl
    rw [← hU']
    have := ObOk.rn hπ (h.O (π l) ob' h1)
    rw [hπ] at this
    exact this
  · obtain ⟨o1, k1, rfl⟩ := hok l ob h1
    obtain ⟨o2, k2, rfl⟩ := hok l' ob' h2
    have := h.dj (π l) (π l') o1 o2 b k1 k2 ((rn_live o1).1 h3) ((rn_live o2).1 h4) h5 h6
    rw [← hπ l, ← hπ l', this]
  · obtain ⟨o1, k1, rfl⟩ := hok l ob h1
    exact h.dS (π l) o1 b f k1 ((rn_live o1).1 h2) h3
  · obtain ⟨o1, k1, rfl⟩ := hok l ob h1
    exact h.wr (π l) o1 b k1 ((rn_live o1).1 h2) h3
  · obtain ⟨o1, k1, rfl⟩ := hok l ob h1
    exact h.lt (π l) o1 b k1 ((rn_live o1).1 h2) h3
  · obtain ⟨h1, h2⟩ := h.lo (π l) hl
    exact ⟨(hU l).1 h1, h2⟩
  · exact ⟨h.fm.os, h.fm.tape, h.fm.output, h.fm.size, h.fm.block⟩

mutual
theorem rn_rn {π : Nat → Nat} (hπ : ∀ n, π (π n) = n) : ∀ v : AV, (v.rn π).rn π = v
  | .any => rfl
  | .imm v => rfl
  | .dat f k es => rfl
  | .agg cs => by simp only [AV.rn, rns_rns hπ cs]
  | .ptr l off => by simp only [AV.rn, hπ]
  | .elp f ds => rfl
  | .row l => by simp only [AV.rn, hπ]
  | .fn f cs => by simp only [AV.rn, rns_rns hπ cs]
  | .map l => by simp only [AV.rn, hπ]
  | .tup cs => by simp only [AV.rn, rns_rns hπ cs]
theorem rns_rns {π : Nat → Nat} (hπ : ∀ n, π (π n) = n) : ∀ vs : List AV, AV.rns π (AV.rns π vs) = vs
  | [] => rfl
  | v :: vs => by simp only [AV.rns, rn_rn hπ v, rns_rns hπ vs]
end
theorem orn_orn {π : Nat → Nat} (hπ : ∀ n, π (π n) = n) (o : Ob) : (o.rn π).rn π = o := by
  cases o with
  | box cs => simp only [Ob.rn, rns_rns hπ]
  | row e k cs => simp only [Ob.rn, rns_rns hπ]
  | rowd e k f es => rfl
  | mp es => rfl
  | dead => rfl
theorem rnO_rnO {π : Nat → Nat} (hπ : ∀ n, π (π n) = n) : ∀ O : List (Nat × Ob), rnO π (rnO π O) = O
  | [] => rfl
  | (l, o) :: O => by simp only [rnO, hπ, orn_orn hπ, rnO_rnO hπ O]
theorem rnT_rnT {π : Nat → Nat} (hπ : ∀ n, π (π n) = n) : ∀ T : List (Nat × AV), rnT π (rnT π T) = T
  | [] => rfl
  | (l, o) :: O => by simp only [rnT, rn_rn hπ, rnT_rnT hπ O]

/-- A contract by other numbers. -/
theorem AC_rn {P : Program} {f : FuncId} {args : List AV} {O : List (Nat × Ob)} {Post : AV → List (Nat × Ob) → Prop} (a b : Nat) (h : AC P f args O Post) :
    AC P f (AV.rns (swp a b) args) (rnO (swp a b) O) (fun r O' => Post (r.rn (swp a b)) (rnO (swp a b) O')) := by
  have hπ := swp_swp a b
  rintro c w vs ρ S h0 hL hS hc
  have h1 := Conc.rn hπ hc
  rw [← argT_rn, rns_rns hπ, rnO_rnO hπ, rns_length] at h1
  have hin : ∀ l, inD (rnO (swp a b) O) l = inD O (swp a b l) := fun l => by simp only [inD, ok_rnO hπ, Option.isSome_map]
  refine (h { c with ρ0 := fun l => c.ρ0 (swp a b l), L := fun l => c.L (swp a b l) } w vs _ S h0 (fun l => by rw [hL, hin, hπ]) hS h1).mono ?_
  rintro e w' ⟨v, r, O', rfl, hP, ρ', S', h'⟩
  have h2 := Conc.rn hπ h'
  simp only [hπ] at h2
  refine ⟨v, r.rn (swp a b), rnO (swp a b) O', rfl, by dsimp only; rw [rn_rn hπ, rnO_rnO hπ]; exact hP, _, S', h2⟩

/-- A state by other numbers: what was handed in keeps its own. -/
theorem sub_rn {c : Ctx} {N : Nat} {T : List (Nat × AV)} {O : List (Nat × Ob)} (a b : Nat) (ha : ¬ c.L a) (hb : ¬ c.L b) : Sub c N ⟨T, O⟩ ⟨rnT (swp a b) T, rnO (swp a b) O⟩ := by
  rintro s w ⟨ρ, S, hc⟩
  have hπ := swp_swp a b
  have h1 := Conc.rn hπ hc
  have hfix : ∀ l, c.L l → swp a b l = l := fun l hl => by
    simp only [swp, beq_ite]
    rw [if_neg (fun e : l = a => ha (by rw [← e]; exact hl)), if_neg (fun e : l = b => hb (by rw [← e]; exact hl))]
  refine ⟨_, S, ⟨h1.tm, h1.df, h1.T, h1.O, h1.dj, h1.dS, fun l ob b' k1 k2 k3 => ?_, h1.lt, h1.SS, h1.Sb, h1.Sn, h1.So, fun l hl => ?_, h1.fm⟩⟩
  · rcases h1.wr l ob b' k1 k2 k3 with h | ⟨h, h'⟩
    · exact .inl h
    · refine .inr ⟨?_, h'⟩
      have := hfix _ h
      rw [hπ] at this
      rw [this]; exact h
  · have h2 := h1.lo l (by show c.L (swp a b l); rw [hfix l hl]; exact hl)
    refine ⟨h2.1, ?_⟩
    have h3 := h2.2
    show ρ (swp a b l) = c.ρ0 l
    have h4 : ρ (swp a b l) = c.ρ0 (swp a b l) := h3
    rw [h4, hfix l hl]

end Go.Proofs.Ytdecgkhdbfgldaa
