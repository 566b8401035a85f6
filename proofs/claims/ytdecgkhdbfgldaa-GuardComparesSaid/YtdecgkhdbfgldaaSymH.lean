/- Plain proof kit of this session, eighth part: what a function's call is said to do; how such a word is won, and used. -/
import Derived.Test.YtdecgkhdbfgldaaSymG
set_option linter.unusedVariables false
set_option linter.unusedSimpArgs false
namespace Go.Proofs.Ytdecgkhdbfgldaa
open Go

/-! ### Which regions a value reads -/
mutual
def AV.allQ (q : Bool → Bool) : AV → Bool
  | .any => true
  | .imm _ => true
  | .dat f _ _ => q f
  | .agg cs => AV.allQs q cs
  | .ptr _ _ => true
  | .elp f _ => q f
  | .row _ => true
  | .fn _ cs => AV.allQs q cs
  | .map _ => true
  | .tup cs => AV.allQs q cs
def AV.allQs (q : Bool → Bool) : List AV → Bool
  | [] => true
  | v :: vs => AV.allQ q v && AV.allQs q vs
end
def Ob.allQ (q : Bool → Bool) : Ob → Bool
  | .box cs => AV.allQs q cs
  | .row _ _ cs => AV.allQs q cs
  | .rowd _ _ f _ => q f
  | .mp _ => true
  | .dead => true

mutual
theorem Rep.gen {w w' : World} {ρ ρ' : Nat → Value} {S S' : Bool → Nat → Prop} {U U' : Nat → Prop} {p : Nat → Bool} {q : Bool → Bool} (hS : ∀ f b, q f = true → S f b → S' f b) (hw : ∀ f b, q f = true → S f b → w'.heap[b]? = w.heap[b]?)
    (hp : ∀ l, p l = true → U l → U' l ∧ ρ' l = ρ l) : ∀ (v : AV) (x : Value), v.allL p = true → v.allQ q = true → Rep w ρ S U v x → Rep w' ρ' S' U' v x
  | .any, x, _, _, _ => by simp [Rep]
  | .imm v, x, _, _, h => by simpa [Rep] using h
  | .dat f k es, x, _, hq, h => by
    simp only [Rep] at h ⊢
    simp only [AV.allQ] at hq
    exact RepD.mono (fun b => hS f b hq) (fun b => hw f b hq) _ _ h
  | .agg cs, x, ha, hq, h => by
    simp only [Rep] at h ⊢
    simp only [AV.allL] at ha
    simp only [AV.allQ] at hq
    obtain ⟨xs, hx, h1, h⟩ := h
    exact ⟨xs, hx, h1, RepL.gen hS hw hp cs xs ha hq h⟩
  | .ptr l off, x, ha, _, h => by
    simp only [Rep] at h ⊢
    simp only [AV.allL] at ha
    obtain ⟨hl, b, hb, hx⟩ := h
    exact ⟨(hp l ha hl).1, b, by rw [(hp l ha hl).2]; exact hb, hx⟩
  | .elp f cs, x, _, hq, h => by
    simp only [Rep] at h ⊢
    simp only [AV.allQ] at hq
    obtain ⟨b, off, hx, hb, h⟩ := h
    exact ⟨b, off, hx, hS f b hq hb, RepCs.mono (fun b => hS f b hq) (fun b => hw f b hq) b hb off cs h⟩
  | .row l, x, ha, _, h => by
    simp only [Rep] at h ⊢
    simp only [AV.allL] at ha
    exact ⟨(hp l ha h.1).1, by rw [(hp l ha h.1).2]; exact h.2.1, h.2.2⟩
  | .fn f caps, x, ha, hq, h => by
    simp only [Rep] at h ⊢
    simp only [AV.allL] at ha
    simp only [AV.allQ] at hq
    obtain ⟨xs, hx, h⟩ := h
    exact ⟨xs, hx, RepL.gen hS hw hp caps xs ha hq h⟩
  | .map l, x, ha, _, h => by
    simp only [Rep] at h ⊢
    simp only [AV.allL] at ha
    exact ⟨(hp l ha h.1).1, by rw [(hp l ha h.1).2]; exact h.2.1, h.2.2⟩
  | .tup vs, x, ha, hq, h => by
    simp only [Rep] at h ⊢
    simp only [AV.allL] at ha
    simp only [AV.allQ] at hq
    obtain ⟨xs, hx, h⟩ := h
    exact ⟨xs, hx, RepL.gen hS hw hp vs xs ha hq h⟩
theorem RepL.gen {w w' : World} {ρ ρ' : Nat → Value} {S S' : Bool → Nat → Prop} {U U' : Nat → Prop} {p : Nat → Bool} {q : Bool → Bool} (hS : ∀ f b, q f = true → S f b → S' f b) (hw : ∀ f b, q f = true → S f b → w'.heap[b]? = w.heap[b]?)
    (hp : ∀ l, p l = true → U l → U' l ∧ ρ' l = ρ l) : ∀ (vs : List AV) (xs : List Value), AV.allLs p vs = true → AV.allQs q vs = true → RepL w ρ S U vs xs → RepL w' ρ' S' U' vs xs
  | [], xs, _, _, h => by simpa [RepL] using h
  | v :: vs, xs, ha, hq, h => by
    simp only [RepL] at h ⊢
    simp only [AV.allLs, Bool.and_eq_true] at ha
    simp only [AV.allQs, Bool.and_eq_true] at hq
    obtain ⟨y, ys, hx, h1, h2⟩ := h
    exact ⟨y, ys, hx, Rep.gen hS hw hp v y ha.1 hq.1 h1, RepL.gen hS hw hp vs ys ha.2 hq.2 h2⟩
end
theorem allQs_lift (q : Bool → Bool) (f : Bool) (hq : q f = true) : ∀ ds : List D, AV.allQs q (lift f ds) = true
  | [] => rfl
  | d :: ds => by
    simp only [lift, List.map_cons, AV.allQs, Bool.and_eq_true]
    exact ⟨by cases d <;> simp [D.av, AV.allQ, hq], allQs_lift q f hq ds⟩
theorem ObOk.gen {w w' : World} {ρ ρ' : Nat → Value} {S S' : Bool → Nat → Prop} {U U' : Nat → Prop} {l : Nat} {p : Nat → Bool} {q : Bool → Bool} (hS : ∀ f b, q f = true → S f b → S' f b) (hw : ∀ f b, q f = true → S f b → w'.heap[b]? = w.heap[b]?)
    (hp : ∀ l, p l = true → U l → U' l ∧ ρ' l = ρ l) (hl : ρ' l = ρ l) {o : Ob} (ha : o.allL p = true) (hq : o.allQ q = true) (hb : ∀ b, blk (ρ l) = some b → w'.heap[b]? = w.heap[b]?) (h : ObOk w ρ S U l o) : ObOk w' ρ' S' U' l o := by
  cases o with
  | box cs =>
    obtain ⟨b, ty, xs, h1, h2, h3, h4⟩ := h
    exact ⟨b, ty, xs, by rw [hl, h1], by rw [hb b (by simp [h1, blk]), h2], h3, RepL.gen hS hw hp _ _ ha hq h4⟩
  | row e k cs =>
    obtain ⟨n, xs, h1, h2, h3⟩ := h
    exact ⟨n, xs, by rw [hl]; exact ownsRow_of_block h1 hb, h2, RepL.gen hS hw hp _ _ ha hq h3⟩
  | rowd e k f es =>
    obtain ⟨h0, xs, h1, h2, h3⟩ := h
    exact ⟨h0, xs, by rw [hl]; exact ownsRow_of_block h1 hb, h2, RepL.gen hS hw hp _ _ (allLs_lift p f _) (allQs_lift q f hq _) h3⟩
  | mp es =>
    obtain ⟨r, h1, h2⟩ := h
    exact ⟨r, by rw [hl, h1], h2.of_block (hb r (by simp [h1, blk]))⟩
  | dead => trivial

/-! ### What a caller's value is to the callee -/
mutual
/-- B: fresh data and rows are shown as data; else they are not shown. -/
def AV.cv (B : Bool) (O : List (Nat × Ob)) (p : Nat → Bool) : AV → AV
  | .any => .any
  | .imm v => .imm v
  | .dat f k es => if f && !B then .any else .dat false k es
  | .agg cs => .agg (AV.cvs B O p cs)
  | .ptr l off => if p l then .ptr l off else .any
  | .elp f ds => if f && !B then .any else .elp false ds
  | .row l => if p l then .row l else match ok O l with
    | some (.rowd _ k _ es) => if B && !(k == 0) then .dat false k es else .any
    | _ => .any
  | .fn f cs => .fn f (AV.cvs B O p cs)
  | .map l => if p l then .map l else .any
  | .tup cs => .tup (AV.cvs B O p cs)
def AV.cvs (B : Bool) (O : List (Nat × Ob)) (p : Nat → Bool) : List AV → List AV
  | [] => []
  | v :: vs => AV.cv B O p v :: AV.cvs B O p vs
end
def Ob.cv (B : Bool) (O : List (Nat × Ob)) (p : Nat → Bool) : Ob → Ob
  | .box cs => .box (AV.cvs B O p cs)
  | .row e k cs => .row e k (AV.cvs B O p cs)
  | .rowd e k f es => if f && !B then .dead else .rowd e k false es
  | .mp ss => .mp ss
  | .dead => .dead

theorem cvs_lift {B f : Bool} {O : List (Nat × Ob)} {p : Nat → Bool} (h : (f && !B) = false) : ∀ ds : List D, AV.cvs B O p (lift f ds) = lift false ds
  | [] => rfl
  | d :: ds => by
    simp only [lift, List.map_cons, AV.cvs]
    have := cvs_lift (B := B) (f := f) (O := O) (p := p) h ds
    simp only [lift] at this
    rw [this]
    congr 1
    cases d <;> simp [D.av, AV.cv, h]

/-- What the callee may read. -/
def seen (B : Bool) (O : List (Nat × Ob)) (p : Nat → Bool) (ρ : Nat → Value) (S : Bool → Nat → Prop) (b : Nat) : Prop :=
  S false b ∨ (B = true ∧ (S true b ∨ ∃ l e k f es, ok O l = some (.rowd e k f es) ∧ p l = false ∧ blk (ρ l) = some b))

def seenS (B : Bool) (O : List (Nat × Ob)) (p : Nat → Bool) (ρ : Nat → Value) (S : Bool → Nat → Prop) (f : Bool) (b : Nat) : Prop := f = false ∧ seen B O p ρ S b

mutual
theorem rep_cv {c : Ctx} {N : Nat} {T : List (Nat × AV)} {O : List (Nat × Ob)} {a : Act} {w : World} {ρ : Nat → Value} {S : Bool → Nat → Prop} {B : Bool} {p : Nat → Bool} {U' : Nat → Prop} (hc : Conc c N ⟨T, O⟩ a w ρ S) (hU : ∀ l, p l = true → U' l) :
    ∀ (v : AV) (x : Value), Rep w ρ S (St.U ⟨T, O⟩) v x → Rep w ρ (seenS B O p ρ S) U' (AV.cv B O p v) x
  | .any, x, _ => by simp [AV.cv, Rep]
  | .imm v, x, h => by simpa [AV.cv, Rep] using h
  | .dat f k es, x, h => by
    simp only [AV.cv]
    split
    · simp [Rep]
    · rename_i hf
      simp only [Rep] at h ⊢
      refine RepD.mono (fun b hb => ⟨rfl, ?_⟩) (fun _ _ => rfl) _ _ h
      cases f with
      | false => exact .inl hb
      | true => exact .inr ⟨by simpa using hf, .inl hb⟩
  | .agg cs, x, h => by
    simp only [AV.cv, Rep] at h ⊢
    obtain ⟨xs, hx, h1, h⟩ := h
    exact ⟨xs, hx, h1, repL_cv hc hU cs xs h⟩
  | .ptr l off, x, h => by
    simp only [AV.cv]
    split
    · rename_i hp
      simp only [Rep] at h ⊢
      exact ⟨hU l hp, h.2⟩
    · simp [Rep]
  | .elp f ds, x, h => by
    simp only [AV.cv]
    split
    · simp [Rep]
    · rename_i hf
      simp only [Rep] at h ⊢
      obtain ⟨b, off, hx, hb, h⟩ := h
      have hs : ∀ b, S f b → seenS B O p ρ S false b := fun b hb => ⟨rfl, by
        cases f with
        | false => exact .inl hb
        | true => exact .inr ⟨by simpa using hf, .inl hb⟩⟩
      exact ⟨b, off, hx, hs b hb, RepCs.mono hs (fun _ _ => rfl) b hb off ds h⟩
  | .row l, x, h => by
    simp only [AV.cv]
    split
    · rename_i hp
      simp only [Rep] at h ⊢
      exact ⟨hU l hp, h.2⟩
    · rename_i hp
      split
      · rename_i e k f es hok
        split
        · rename_i hB
          simp only [Bool.and_eq_true, Bool.not_eq_true', beq_eq_false_iff_ne] at hB
          simp only [Rep] at h
          obtain ⟨_, hx, _⟩ := h
          obtain ⟨hes, xs, how, h1, hr⟩ := hc.O l _ hok
          have hsee : ∀ b, S f b → seen B O p ρ S b := fun b hb => by
            cases f with
            | false => exact .inl hb
            | true => exact .inr ⟨hB.1, .inl hb⟩
          have hp' : p l = false := by simpa using hp
          simp only [Rep, RepD, hx]
          rcases how.2 with ⟨hv, hn⟩ | ⟨g, cap, cur, hv, _, hh, hcap, hmax, _⟩
          · exact ⟨none, 0, 0, hv, hn.symm, Nat.le_refl _, Nat.zero_le _, .inl rfl⟩
          · refine ⟨some ⟨g, 0, none⟩, es.length, cap, hv, rfl, hcap, hmax, .inr ⟨g, 0, rfl, ⟨rfl, .inr ⟨hB.1, .inr ⟨l, e, k, f, es, hok, hp', by rw [hv]; rfl⟩⟩⟩, ?_⟩⟩
            have hr' : RepL w ρ (fun g b => seenS B O p ρ S false b) (St.U ⟨T, O⟩) (lift f es.flatten) xs := by
              refine RepL.gen (p := fun _ => false) (q := fun g => g == f) (fun g b hg hb => ?_) (fun _ _ _ _ => rfl) (fun _ h => by cases h) _ _ (allLs_lift _ _ _) (allQs_lift _ _ (by simp) _) hr
              have hgf : g = f := by simpa using hg
              rw [hgf] at hb
              exact ⟨rfl, hsee b hb⟩
            exact repEs_row (S := fun _ b => seenS B O p ρ S false b) (f := f) (b := g) (fun _ _ => trivial) (off := 0) hes hr' h1 (fun j u hu => by rw [Nat.zero_add]; exact row_cells_get how (by rw [hv]; rfl) j u hu)
        · simp [Rep]
      · simp [Rep]
  | .fn f cs, x, h => by
    simp only [AV.cv, Rep] at h ⊢
    obtain ⟨xs, hx, h⟩ := h
    exact ⟨xs, hx, repL_cv hc hU cs xs h⟩
  | .map l, x, h => by
    simp only [AV.cv]
    split
    · rename_i hp
      simp only [Rep] at h ⊢
      exact ⟨hU l hp, h.2⟩
    · simp [Rep]
  | .tup cs, x, h => by
    simp only [AV.cv, Rep] at h ⊢
    obtain ⟨xs, hx, h⟩ := h
    exact ⟨xs, hx, repL_cv hc hU cs xs h⟩
theorem repL_cv {c : Ctx} {N : Nat} {T : List (Nat × AV)} {O : List (Nat × Ob)} {a : Act} {w : World} {ρ : Nat → Value} {S : Bool → Nat → Prop} {B : Bool} {p : Nat → Bool} {U' : Nat → Prop} (hc : Conc c N ⟨T, O⟩ a w ρ S) (hU : ∀ l, p l = true → U' l) :
    ∀ (vs : List AV) (xs : List Value), RepL w ρ S (St.U ⟨T, O⟩) vs xs → RepL w ρ (seenS B O p ρ S) U' (AV.cvs B O p vs) xs
  | [], xs, h => by simpa [AV.cvs, RepL] using h
  | v :: vs, xs, h => by
    simp only [AV.cvs, RepL] at h ⊢
    obtain ⟨y, ys, hx, h1, h2⟩ := h
    exact ⟨y, ys, hx, rep_cv hc hU v y h1, repL_cv hc hU vs ys h2⟩
end
theorem ob_cv {c : Ctx} {N : Nat} {T : List (Nat × AV)} {O : List (Nat × Ob)} {a : Act} {w : World} {ρ : Nat → Value} {S : Bool → Nat → Prop} {B : Bool} {p : Nat → Bool} {U' : Nat → Prop} (hc : Conc c N ⟨T, O⟩ a w ρ S) (hU : ∀ l, p l = true → U' l)
    {l : Nat} {ob : Ob} (hl : ok O l = some ob) : ObOk w ρ (seenS B O p ρ S) U' l (ob.cv B O p) := by
  have h := hc.O l ob hl
  cases ob with
  | box cs =>
    obtain ⟨b, ty, xs, h1, h2, h3, h4⟩ := h
    exact ⟨b, ty, xs, h1, h2, h3, repL_cv hc hU _ _ h4⟩
  | row e k cs =>
    obtain ⟨n, xs, h1, h2, h3⟩ := h
    exact ⟨n, xs, h1, h2, repL_cv hc hU _ _ h3⟩
  | rowd e k f es =>
    obtain ⟨h0, xs, h1, h2, h3⟩ := h
    simp only [Ob.cv]
    split
    · trivial
    · rename_i hf
      have := repL_cv (B := B) (p := p) hc hU _ _ h3
      rw [cvs_lift (by simpa using hf)] at this
      exact ⟨h0, xs, h1, h2, this⟩
  | mp es =>
    exact h
  | dead => trivial

theorem cv_live {B : Bool} {O : List (Nat × Ob)} {p : Nat → Bool} {ob : Ob} (h : (ob.cv B O p).live) : ob.live := by
  cases ob <;> first | exact h | (simp only [Ob.cv] at h; split at h <;> first | exact h.elim | trivial) | trivial

/-! ### What a call does -/
def argT : Nat → List AV → List (Nat × AV)
  | _, [] => []
  | i, v :: vs => (i, v) :: argT (i + 1) vs

/-- The function's call, its arguments as told, the objects O handed over: it returns; of what it returns, and what the objects are then, Post tells. -/
def AC (P : Program) (f : FuncId) (args : List AV) (O : List (Nat × Ob)) (Post : AV → List (Nat × Ob) → Prop) : Prop :=
  ∀ (c : Ctx) (w : World) (vs : List Value) (ρ : Nat → Value) (S : Bool → Nat → Prop), c.w0 = w → (∀ l, c.L l ↔ inD O l = true) → (∀ b, ¬ S true b) → Conc c args.length ⟨argT 0 args, O⟩ ⟨vs.toArray, []⟩ w ρ S →
    Calls P f vs.toArray w fun e w' => ∃ v r O', e = .returned v ∧ Post r O' ∧ C c 1 ⟨[(0, r)], O'⟩ ⟨#[v], []⟩ w'

theorem lk_argT {w : World} {ρ : Nat → Value} {S : Bool → Nat → Prop} {U : Nat → Prop} : ∀ {as : List AV} {xs : List Value} (i : Nat), RepL w ρ S U as xs → ∀ t v, lk (argT i as) t = some v → ∃ j, t = i + j ∧ ∃ x, xs[j]? = some x ∧ Rep w ρ S U v x
  | [], xs, i, h, t, v, ht => by simp [argT, lk] at ht
  | a :: as, xs, i, h, t, v, ht => by
    simp only [RepL] at h
    obtain ⟨y, ys, rfl, h1, h2⟩ := h
    simp only [argT, lk_cons] at ht
    split at ht
    · rename_i e
      simp only [Option.some.injEq] at ht; subst ht
      exact ⟨0, by omega, y, by simp, h1⟩
    · obtain ⟨j, rfl, x, hx, hv⟩ := lk_argT (i + 1) h2 t v ht
      exact ⟨j + 1, by omega, x, by simpa using hx, hv⟩

theorem lk_argT_get : ∀ {as : List AV} (i j : Nat) {v : AV}, as[j]? = some v → lk (argT i as) (i + j) = some v
  | [], i, j, v, h => by simp at h
  | a :: as, i, 0, v, h => by simp only [List.getElem?_cons_zero, Option.some.injEq] at h; subst h; simp [argT, lk_cons]
  | a :: as, i, j + 1, v, h => by
    simp only [argT, lk_cons]
    rw [if_neg (by omega), show i + (j + 1) = i + 1 + j from by omega]
    exact lk_argT_get (i + 1) j (by simpa using h)

/-- What the results are. -/
def resA (P : Program) (σ : St) : ResultVar → Option AV
  | .tmp t => lk σ.T t
  | .cell a _ => match lk σ.T a with
    | some (.ptr l 0) => match ok σ.O l with
      | some (.box cs) => match cs with
        | [v] => some v
        | cs => some (.agg cs)
      | _ => none
    | _ => none
/-- A result in a box is of its own type. -/
def resT (P : Program) (σ : St) : ResultVar → Bool
  | .tmp _ => true
  | .cell a ty => match lk σ.T a with
    | some (.ptr l 0) => match ok σ.O l with
      | some (.box cs) => tfB P ty (!(cs.length == 1)) cs.length
      | _ => false
    | _ => false
def resAs (P : Program) (σ : St) : List ResultVar → Option (List AV)
  | [] => some []
  | r :: rs => match resA P σ r, resT P σ r, resAs P σ rs with
    | some v, true, some vs => some (v :: vs)
    | _, _, _ => none
def resV : List AV → AV
  | [v] => v
  | vs => .tup vs

section
variable {P : Program} {c : Ctx} {N : Nat} {Q : Exit → St → Prop} {σ : St} {o : Oper}

theorem run_resA {a : Act} {w : World} {ρ : Nat → Value} {S : Bool → Nat → Prop} (hc : Conc c N σ a w ρ S) {r : ResultVar} {v : AV} (h : resA P σ r = some v) (ht : resT P σ r = true) :
    ∃ x, ((match r with | .tmp t => pure (a.tmps.getD t undef) | .cell b ty => do loadVar ty (← asAddr (a.tmps.getD b undef)) : Sem Value)).run P w = .ok x w ∧ Rep w ρ S σ.U v x := by
  cases r with
  | tmp t => exact ⟨_, rfl, hc.T t v h⟩
  | cell b ty =>
    simp only [resA, resT] at h ht
    split at h
    · rename_i l hl
      split at h
      · rename_i cs hcs
        have hb := hc.T b _ hl
        simp only [Rep] at hb
        obtain ⟨_, g, hg, hbe⟩ := hb
        obtain ⟨b', t', xs, h1, h2, h3, h4⟩ := hc.O l _ hcs
        rw [h1] at hg; simp only [blk, Option.some.injEq] at hg; subst hg
        have hlen := h4.length
        rw [hl] at ht
        simp only [hcs] at ht
        have hrun := run_loadVar_cells (P := P) ht w b' 0 xs hlen (fun j u hu => by rw [Nat.zero_add, cell_of_block h2]; exact hu)
        refine ⟨mkV (!(cs.length == 1)) xs, ?_, ?_⟩
        · simp only [hbe]
          simp [Sem.run_bind, asAddr, hrun]
        · refine rep_mkA (n := cs.length) ?_ h3 h4
          split at h
          · simp only [Option.some.injEq] at h; subst h; simp [mkA]
          · rename_i hne
            simp only [Option.some.injEq] at h; subst h
            have : (cs.length == 1) = false := by
              cases hb : cs.length == 1 with
              | false => rfl
              | true =>
                have h1 : cs.length = 1 := by simpa using hb
                obtain ⟨z, hz⟩ := List.length_eq_one_iff.1 h1
                exact absurd hz (hne z)
            simp [mkA, this]
      · simp at h
    · simp at h

theorem run_resAs {a : Act} {w : World} {ρ : Nat → Value} {S : Bool → Nat → Prop} (hc : Conc c N σ a w ρ S) : ∀ {rs : List ResultVar} {vs : List AV}, resAs P σ rs = some vs →
    ∃ xs : List Value, (rs.mapM (m := Sem) fun r => match r with | .tmp t => pure (a.tmps.getD t undef) | .cell b ty => do loadVar ty (← asAddr (a.tmps.getD b undef))).run P w = .ok xs w ∧ RepL w ρ S σ.U vs xs
  | [], vs, h => by
    simp only [resAs, Option.some.injEq] at h; subst h
    exact ⟨[], by simp, by simp [RepL]⟩
  | r :: rs, vs, h => by
    simp only [resAs] at h
    split at h
    · rename_i v vs' h1 h2 h3
      simp only [Option.some.injEq] at h; subst h
      obtain ⟨x, hx, hv⟩ := run_resA hc h1 h2
      obtain ⟨xs, hxs, hvs⟩ := run_resAs hc h3
      refine ⟨x :: xs, ?_, by simp only [RepL]; exact ⟨x, xs, rfl, hv, hvs⟩⟩
      simp only [List.mapM_cons, Sem.run_bind, hx, Result.andThen_ok, hxs, Sem.run_pure]
    · simp at h

/-- At a function's end: its results, what of the objects is told. -/
def retQ (P : Program) (c : Ctx) (N : Nat) (rs : List ResultVar) (Post : AV → List (Nat × Ob) → Prop) : Exit → St → Prop := fun e σ =>
  (e = .ret ∨ e = .normal) ∧ ∃ σ' vs O', Sub c N σ σ' ∧ resAs P σ' rs = some vs ∧ SubO O' σ'.O ∧ AV.allLs (inD O') vs = true ∧ allO (inD O') O' = true ∧ (∀ l, c.L l → inD O' l = true) ∧ Post (resV vs) O'

theorem AC_intro {f : FuncId} {fn : Func} {x : Code} {args : List AV} {O : List (Nat × Ob)} {Post : AV → List (Nat × Ob) → Prop} (hf : P.funcs[f]? = some fn) (hb : fn.body = some x) (hN : fn.ntmps = N) (hn : args.length ≤ N)
    (H : ∀ c, (∀ l, c.L l ↔ inD O l = true) → awp P c N x (retQ P c N fn.results.toList Post) ⟨argT 0 args, O⟩) : AC P f args O Post := by
  rintro c w vs ρ S hw0 hL hSt hc
  have hvl : vs.length = args.length := by have := hc.tm; simpa using this
  refine calls_of_wp hf hb ?_
  have hc' : Conc c N ⟨argT 0 args, O⟩ { tmps := vs.toArray ++ Array.replicate (fn.ntmps - vs.toArray.size) undef, defers := [] } w ρ S := by
    refine { hc with tm := by simp; omega, df := rfl, T := fun t v ht => ?_ }
    have h1 := hc.T t v ht
    have hlt : t < vs.length := by
      rw [hvl]
      have : ∀ (as : List AV) (i t : Nat) (v : AV), lk (argT i as) t = some v → t < i + as.length := by
        intro as
        induction as with
        | nil => intro i t v h; simp [argT, lk] at h
        | cons a as ih =>
          intro i t v h
          simp only [argT, lk_cons] at h
          split at h
          · simp; omega
          · have := ih (i + 1) t v h; simp; omega
      have := this args 0 t v ht
      omega
    have : (vs.toArray ++ Array.replicate (fn.ntmps - vs.toArray.size) undef).getD t undef = vs.toArray.getD t undef := by
      rw [Array.getD_eq_getD_getElem?, Array.getD_eq_getD_getElem?, Array.getElem?_append_left (by simpa using hlt)]
    simp only at h1 ⊢
    rw [this]; exact h1
  refine Code.wp_mono ?_ (H c hL _ w ⟨ρ, S, hc'⟩)
  rintro e a' w' ⟨σ', hσ, he, σ2, rvs, O', hsub, hres, hO', hvO, hOO, hL', hP⟩
  obtain ⟨ρ2, S2, h2⟩ := hsub a' w' hσ
  obtain ⟨xs, hxs, hrep⟩ := run_resAs h2 hres
  have hrun : (results fn a'.tmps).run P w' = .ok (if h : xs.toArray.size = 1 then xs.toArray[0] else .tuple xs.toArray) w' := by
    unfold results
    rw [Array.mapM_eq_mapM_toList]
    rw [Sem.run_bind]
    simp only [map_eq_pure_bind, Sem.run_bind]
    erw [hxs]
    rfl
  have hx : ∃ v, (if h : xs.toArray.size = 1 then xs.toArray[0] else .tuple xs.toArray) = v ∧ Rep w' ρ2 S2 σ2.U (resV rvs) v := by
    have hl := hrep.length
    match rvs, xs, hrep, hl with
    | [], [], h, _ => exact ⟨_, rfl, by simp only [resV, Rep]; exact ⟨[], rfl, h⟩⟩
    | [v], [x], h, _ =>
      simp only [RepL] at h
      obtain ⟨y, ys, h1, h2, _⟩ := h
      simp only [List.cons.injEq] at h1
      exact ⟨_, rfl, by simp only [resV]; rw [h1.1]; simpa using h2⟩
    | v :: u :: vs, x :: y :: zs, h, _ => exact ⟨_, rfl, by simp only [resV, Rep]; exact ⟨x :: y :: zs, by simp, h⟩⟩
    | [], _ :: _, _, hl => simp at hl
    | [_], [], _, hl => simp at hl
    | [_], _ :: _ :: _, _, hl => simp at hl
    | _ :: _ :: _, [], _, hl => simp at hl
    | _ :: _ :: _, [_], _, hl => simp at hl
  obtain ⟨v, hv, hvr⟩ := hx
  rw [hv] at hrun
  have hall : (resV rvs).allL (inD O') = true := by
    match rvs, hvO with
    | [], _ => rfl
    | [u], h => simpa [resV, AV.allLs] using h
    | u :: u' :: us, h => simpa [resV, AV.allL] using h
  have hp : ∀ l, inD O' l = true → σ2.U l → St.U ⟨[(0, resV rvs)], O'⟩ l ∧ ρ2 l = ρ2 l := fun l hl _ => ⟨hl, rfl⟩
  have hfin : Conc c 1 ⟨[(0, resV rvs)], O'⟩ ⟨#[v], []⟩ w' ρ2 S2 := by
    refine ⟨rfl, rfl, fun t u ht => ?_, fun l ob hl => ?_, fun l l' ob ob' b h1 h3 => h2.dj l l' ob ob' b (hO' l ob h1) (hO' l' ob' h3), fun l ob b f h1 => h2.dS l ob b f (hO' l ob h1), fun l ob b h1 => h2.wr l ob b (hO' l ob h1), fun l ob b h1 => h2.lt l ob b (hO' l ob h1), h2.SS, h2.Sb, h2.Sn, h2.So, fun l hl => ⟨hL' l hl, (h2.lo l hl).2⟩, h2.fm⟩
    · simp only [lk_cons] at ht
      split at ht
      · rename_i e; subst e
        simp only [Option.some.injEq] at ht; subst ht
        exact Rep.move (fun _ _ h => h) (fun _ _ _ => rfl) hp _ _ hall hvr
      · simp [lk] at ht
    · exact (h2.O l ob (hO' l ob hl)).move (fun _ _ h => h) (fun _ _ _ => rfl) hp rfl (allO_get hOO hl) (fun _ _ => rfl)
  rcases he with rfl | rfl
  · exact ⟨h2.df, v, hrun, v, resV rvs, O', rfl, hP, ρ2, S2, hfin⟩
  · exact ⟨h2.df, v, hrun, v, resV rvs, O', rfl, hP, ρ2, S2, hfin⟩

end
end Go.Proofs.Ytdecgkhdbfgldaa
