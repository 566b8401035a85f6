/- Part 2 of the proof: SymH, SymI, SymJ, SymK, SymL, SymM, SymN, SymO. -/
import Derived.Test.YtpgceiijoedppaaGreatB1
import Derived.Laws.Strings
import Derived.Lib.Bytealg
import Derived.StringKeys
import Derived.Carry
import Derived.Maps.OwnSet
set_option linter.unusedVariables false
set_option linter.unusedSimpArgs false
namespace Go.Proofs.YtpgceiijoedppaaGreat
open Go
mutual
def AV.allQ (q : Bool → Bool) : AV → Bool
  | .any => true
  | .imm _ => true
  | .dat f _ _ => q f
  | .agg cs => AV.allQs q cs
  | .ptr _ _ => true
  | .elp f _ => q f
  | .row _ => true
  | .fn _ cs => AV.allQs q cs
  | .map _ => true
  | .tup cs => AV.allQs q cs
  | .vw _ _ _ _ => true
def AV.allQs (q : Bool → Bool) : List AV → Bool
  | [] => true
  | v :: vs => AV.allQ q v && AV.allQs q vs
end
def Ob.allQ (q : Bool → Bool) : Ob → Bool
  | .box cs => AV.allQs q cs
  | .row _ _ cs => AV.allQs q cs
  | .rowd _ _ f _ => q f
  | .mp _ _ _ => true
  | .dead => true
  | .arr _ _ f _ => q f
  | .mx _ _ _ _ _ => q false
mutual
theorem Rep.gen {w w' : World} {ρ ρ' : Nat → Value} {S S' : Bool → Nat → Prop} {U U' : Nat → Prop} {p : Nat → Bool} {q : Bool → Bool} (hS : ∀ f b, q f = true → S f b → S' f b) (hw : ∀ f b, q f = true → S f b → w'.heap[b]? = w.heap[b]?)
    (hp : ∀ l, p l = true → U l → U' l ∧ ρ' l = ρ l) : ∀ (v : AV) (x : Value), v.allL p = true → v.allQ q = true → Rep w ρ S U v x → Rep w' ρ' S' U' v x
  | .any, x, _, _, _ => by simp [Rep]
  | .imm v, x, _, _, h => by simpa [Rep] using h
  | .dat f k es, x, _, hq, h => by
    simp only [Rep] at h ⊢
    simp only [AV.allQ] at hq
    exact RepD.mono id (fun b => hS f b hq) (fun b => hw f b hq) _ _ h
  | .agg cs, x, ha, hq, h => by
    simp only [Rep] at h ⊢
    simp only [AV.allL] at ha
    simp only [AV.allQ] at hq
    obtain ⟨xs, hx, h1, h⟩ := h
    exact ⟨xs, hx, h1, RepL.gen hS hw hp cs xs ha hq h⟩
  | .ptr l off, x, ha, _, h => by
    simp only [Rep] at h ⊢
    simp only [AV.allL] at ha
    obtain ⟨hl, b, hb, hx⟩ := h
    exact ⟨(hp l ha hl).1, b, by rw [(hp l ha hl).2]; exact hb, hx⟩
  | .elp f cs, x, _, hq, h => by
    simp only [Rep] at h ⊢
    simp only [AV.allQ] at hq
    obtain ⟨b, off, hx, hb, h⟩ := h
    exact ⟨b, off, hx, hS f b hq hb, qbE.mono id (fun b => hS f b hq) (fun b => hw f b hq) b hb off cs h⟩
  | .row l, x, ha, _, h => by
    simp only [Rep] at h ⊢
    simp only [AV.allL] at ha
    exact ⟨(hp l ha h.1).1, by rw [(hp l ha h.1).2]; exact h.2.1, h.2.2⟩
  | .fn f caps, x, ha, hq, h => by
    simp only [Rep] at h ⊢
    simp only [AV.allL] at ha
    simp only [AV.allQ] at hq
    obtain ⟨xs, hx, h⟩ := h
    exact ⟨xs, hx, RepL.gen hS hw hp caps xs ha hq h⟩
  | .map l, x, ha, _, h => by
    simp only [Rep] at h ⊢
    simp only [AV.allL] at ha
    exact ⟨(hp l ha h.1).1, by rw [(hp l ha h.1).2]; exact h.2.1, h.2.2⟩
  | .tup vs, x, ha, hq, h => by
    simp only [Rep] at h ⊢
    simp only [AV.allL] at ha
    simp only [AV.allQ] at hq
    obtain ⟨xs, hx, h⟩ := h
    exact ⟨xs, hx, RepL.gen hS hw hp vs xs ha hq h⟩
  | .vw l off n c, x, ha, _, h => by
    simp only [Rep] at h ⊢
    simp only [AV.allL] at ha
    obtain ⟨hl, b, hb, hx⟩ := h
    exact ⟨(hp l ha hl).1, b, by rw [(hp l ha hl).2]; exact hb, hx⟩
theorem RepL.gen {w w' : World} {ρ ρ' : Nat → Value} {S S' : Bool → Nat → Prop} {U U' : Nat → Prop} {p : Nat → Bool} {q : Bool → Bool} (hS : ∀ f b, q f = true → S f b → S' f b) (hw : ∀ f b, q f = true → S f b → w'.heap[b]? = w.heap[b]?)
    (hp : ∀ l, p l = true → U l → U' l ∧ ρ' l = ρ l) : ∀ (vs : List AV) (xs : List Value), AV.allLs p vs = true → AV.allQs q vs = true → RepL w ρ S U vs xs → RepL w' ρ' S' U' vs xs
  | [], xs, _, _, h => by simpa [RepL] using h
  | v :: vs, xs, ha, hq, h => by
    simp only [RepL] at h ⊢
    simp only [AV.allLs, Bool.and_eq_true] at ha
    simp only [AV.allQs, Bool.and_eq_true] at hq
    obtain ⟨y, ys, hx, h1, h2⟩ := h
    exact ⟨y, ys, hx, Rep.gen hS hw hp v y ha.1 hq.1 h1, RepL.gen hS hw hp vs ys ha.2 hq.2 h2⟩
end
theorem allQs_lift (q : Bool → Bool) (f : Bool) (hq : q f = true) : ∀ ds : List D, AV.allQs q (lift f ds) = true
  | [] => rfl
  | d :: ds => by
    simp only [lift, List.map_cons, AV.allQs, Bool.and_eq_true]
    exact ⟨by cases d <;> simp [D.av, AV.allQ, hq], allQs_lift q f hq ds⟩
theorem ObOk.gen {w w' : World} {ρ ρ' : Nat → Value} {S S' : Bool → Nat → Prop} {U U' : Nat → Prop} {l : Nat} {p : Nat → Bool} {q : Bool → Bool} (hS : ∀ f b, q f = true → S f b → S' f b) (hw : ∀ f b, q f = true → S f b → w'.heap[b]? = w.heap[b]?)
    (hp : ∀ l, p l = true → U l → U' l ∧ ρ' l = ρ l) (hl : ρ' l = ρ l) {o : Ob} (ha : o.allL p = true) (hq : o.allQ q = true) (hb : ∀ b, blk (ρ l) = some b → w'.heap[b]? = w.heap[b]?) (h : ObOk w ρ S U l o) : ObOk w' ρ' S' U' l o := by
  cases o with
  | box cs =>
    obtain ⟨b, ty, xs, h1, h2, h3, h4⟩ := h
    exact ⟨b, ty, xs, by rw [hl, h1], by rw [hb b (by simp [h1, blk]), h2], h3, RepL.gen hS hw hp _ _ ha hq h4⟩
  | row e k cs =>
    obtain ⟨n, xs, h1, h2, h3⟩ := h
    exact ⟨n, xs, by rw [hl]; exact qcj h1 hb, h2, RepL.gen hS hw hp _ _ ha hq h3⟩
  | rowd e k f es =>
    obtain ⟨h0, xs, h1, h2, h3⟩ := h
    exact ⟨h0, xs, by rw [hl]; exact qcj h1 hb, h2, RepL.gen hS hw hp _ _ (qbW p f _) (allQs_lift q f hq _) h3⟩
  | mp P k ks =>
    obtain ⟨r, h1, h2⟩ := h
    exact ⟨r, by rw [hl, h1], h2.of_block (hb r (by simp [h1, blk]))⟩
  | dead => trivial
  | arr e k f es =>
    obtain ⟨b, xs, h1, h2, h3, h4, h5⟩ := h
    exact ⟨b, xs, by rw [hl, h1], by rw [hb b (by simp [h1, blk]), h2], h3, h4, fun i d hd => ⟨(h5 i d hd).1, RepL.gen hS hw hp _ _ (qbW p f _) (allQs_lift q f hq _) (h5 i d hd).2.1, (h5 i d hd).2.2⟩⟩
  | mx it P k kvs cur =>
    simp only [ObOk] at h ⊢
    rw [hl]
    exact h.mono (fun b => hS false b hq) (fun b => hw false b hq) hb
mutual
/-- B: fresh data and rows are shown az data; else they are not shown. -/
def AV.cv (B : Bool) (O : List (Nat × Ob)) (p : Nat → Bool) : AV → AV
  | .any => .any
  | .imm v => .imm v
  | .dat f k es => if f && !B then .any else .dat false k es
  | .agg cs => .agg (AV.cvs B O p cs)
  | .ptr l off => if p l then .ptr l off else .any
  | .elp f ds => if f && !B then .any else .elp false ds
  | .row l => if p l then .row l else match ok O l with
    | some (.rowd _ k _ es) => if B && !(k == 0) then .dat false k es else .any
    | _ => .any
  | .fn f cs => .fn f (AV.cvs B O p cs)
  | .map l => if p l then .map l else .any
  | .tup cs => .tup (AV.cvs B O p cs)
  | .vw l off n c => if p l then .vw l off n c else .any
def AV.cvs (B : Bool) (O : List (Nat × Ob)) (p : Nat → Bool) : List AV → List AV
  | [] => []
  | v :: vs => AV.cv B O p v :: AV.cvs B O p vs
end
def Ob.cv (B : Bool) (O : List (Nat × Ob)) (p : Nat → Bool) : Ob → Ob
  | .box cs => .box (AV.cvs B O p cs)
  | .row e k cs => .row e k (AV.cvs B O p cs)
  | .rowd e k f es => if f && !B then .dead else .rowd e k false es
  | .mp P k ks => .mp P k ks
  | .dead => .dead
  | .arr e k f es => if f && !B then .dead else .arr e k false es
  | .mx it P k kvs cur => .mx it P k kvs cur
theorem cvs_lift {B f : Bool} {O : List (Nat × Ob)} {p : Nat → Bool} (h : (f && !B) = false) : ∀ ds : List D, AV.cvs B O p (lift f ds) = lift false ds
  | [] => rfl
  | d :: ds => by
    simp only [lift, List.map_cons, AV.cvs]
    have := cvs_lift (B := B) (f := f) (O := O) (p := p) h ds
    simp only [lift] at this
    rw [this]
    congr 1
    cases d <;> simp [D.av, AV.cv, h]
def seen (B : Bool) (O : List (Nat × Ob)) (p : Nat → Bool) (ρ : Nat → Value) (S : Bool → Nat → Prop) (b : Nat) : Prop :=
  S false b ∨ (B = true ∧ (S true b ∨ ∃ l e k f es, ok O l = some (.rowd e k f es) ∧ p l = false ∧ blk (ρ l) = some b))
def seenS (B : Bool) (O : List (Nat × Ob)) (p : Nat → Bool) (ρ : Nat → Value) (S : Bool → Nat → Prop) (f : Bool) (b : Nat) : Prop := f = false ∧ seen B O p ρ S b
mutual
theorem rep_cv {c : Ctx} {N : Nat} {T : List (Nat × AV)} {O : List (Nat × Ob)} {a : Act} {w : World} {ρ : Nat → Value} {S : Bool → Nat → Prop} {B : Bool} {p : Nat → Bool} {U' : Nat → Prop} (hc : Conc c N ⟨T, O⟩ a w ρ S) (hU : ∀ l, p l = true → U' l) :
    ∀ (v : AV) (x : Value), Rep w ρ S (St.U ⟨T, O⟩) v x → Rep w ρ (seenS B O p ρ S) U' (AV.cv B O p v) x
  | .any, x, _ => by simp [AV.cv, Rep]
  | .imm v, x, h => by simpa [AV.cv, Rep] using h
  | .dat f k es, x, h => by
    simp only [AV.cv]
    split
    · simp [Rep]
    · rename_i hf
      simp only [Rep] at h ⊢
      refine RepD.mono (fun e => by cases e) (fun b hb => ⟨rfl, ?_⟩) (fun _ _ => rfl) _ _ h
      cases f with
      | false => exact .inl hb
      | true => exact .inr ⟨by simpa using hf, .inl hb⟩
  | .agg cs, x, h => by
    simp only [AV.cv, Rep] at h ⊢
    obtain ⟨xs, hx, h1, h⟩ := h
    exact ⟨xs, hx, h1, repL_cv hc hU cs xs h⟩
  | .ptr l off, x, h => by
    simp only [AV.cv]
    split
    · rename_i hp
      simp only [Rep] at h ⊢
      exact ⟨hU l hp, h.2⟩
    · simp [Rep]
  | .elp f ds, x, h => by
    simp only [AV.cv]
    split
    · simp [Rep]
    · rename_i hf
      simp only [Rep] at h ⊢
      obtain ⟨b, off, hx, hb, h⟩ := h
      have hs : ∀ b, S f b → seenS B O p ρ S false b := fun b hb => ⟨rfl, by
        cases f with
        | false => exact .inl hb
        | true => exact .inr ⟨by simpa using hf, .inl hb⟩⟩
      exact ⟨b, off, hx, hs b hb, qbE.mono (fun e => by cases e) hs (fun _ _ => rfl) b hb off ds h⟩
  | .row l, x, h => by
    simp only [AV.cv]
    split
    · rename_i hp
      simp only [Rep] at h ⊢
      exact ⟨hU l hp, h.2⟩
    · rename_i hp
      split
      · rename_i e k f es hok
        split
        · rename_i hB
          simp only [Bool.and_eq_true, Bool.not_eq_true', beq_eq_false_iff_ne] at hB
          simp only [Rep] at h
          obtain ⟨_, hx, _⟩ := h
          obtain ⟨hes, xs, how, h1, hr⟩ := hc.O l _ hok
          have hsee : ∀ b, S f b → seen B O p ρ S b := fun b hb => by
            cases f with
            | false => exact .inl hb
            | true => exact .inr ⟨hB.1, .inl hb⟩
          have hp' : p l = false := by simpa using hp
          simp only [Rep, RepD, hx]
          rcases how.2 with ⟨hv, hn⟩ | ⟨g, cap, cur, hv, _, hh, hcap, hmax, _⟩
          · exact ⟨none, 0, 0, hv, hn.symm, Nat.le_refl _, Nat.zero_le _, .inl rfl⟩
          · refine ⟨some ⟨g, 0, none⟩, es.length, cap, hv, rfl, hcap, hmax, .inr ⟨g, 0, rfl, ⟨rfl, .inr ⟨hB.1, .inr ⟨l, e, k, f, es, hok, hp', by rw [hv]; rfl⟩⟩⟩, fun h => (by cases h), ?_⟩⟩
            have hr' : RepL w ρ (fun g b => seenS B O p ρ S false b) (St.U ⟨T, O⟩) (lift f es.flatten) xs := by
              refine RepL.gen (p := fun _ => false) (q := fun g => g == f) (fun g b hg hb => ?_) (fun _ _ _ _ => rfl) (fun _ h => by cases h) _ _ (qbW _ _ _) (allQs_lift _ _ (by simp) _) hr
              have hgf : g = f := by simpa using hg
              rw [hgf] at hb
              exact ⟨rfl, hsee b hb⟩
            exact qch.mono (F := f) (fun h => by cases h) (fun _ h => h) (fun _ _ => rfl) g k ⟨rfl, .inr ⟨hB.1, .inr ⟨l, e, k, f, es, hok, hp', by rw [hv]; rfl⟩⟩⟩ 0 es <| repEs_row (S := fun _ b => seenS B O p ρ S false b) (f := f) (b := g) (fun _ _ => trivial) (off := 0) hes hr' h1 (fun j u hu => by rw [Nat.zero_add]; exact qcq how (by rw [hv]; rfl) j u hu)
        · simp [Rep]
      · simp [Rep]
  | .fn f cs, x, h => by
    simp only [AV.cv, Rep] at h ⊢
    obtain ⟨xs, hx, h⟩ := h
    exact ⟨xs, hx, repL_cv hc hU cs xs h⟩
  | .map l, x, h => by
    simp only [AV.cv]
    split
    · rename_i hp
      simp only [Rep] at h ⊢
      exact ⟨hU l hp, h.2⟩
    · simp [Rep]
  | .tup cs, x, h => by
    simp only [AV.cv, Rep] at h ⊢
    obtain ⟨xs, hx, h⟩ := h
    exact ⟨xs, hx, repL_cv hc hU cs xs h⟩
  | .vw l off n c, x, h => by
    simp only [AV.cv]
    split
    · rename_i hp
      simp only [Rep] at h ⊢
      exact ⟨hU l hp, h.2⟩
    · simp [Rep]
theorem repL_cv {c : Ctx} {N : Nat} {T : List (Nat × AV)} {O : List (Nat × Ob)} {a : Act} {w : World} {ρ : Nat → Value} {S : Bool → Nat → Prop} {B : Bool} {p : Nat → Bool} {U' : Nat → Prop} (hc : Conc c N ⟨T, O⟩ a w ρ S) (hU : ∀ l, p l = true → U' l) :
    ∀ (vs : List AV) (xs : List Value), RepL w ρ S (St.U ⟨T, O⟩) vs xs → RepL w ρ (seenS B O p ρ S) U' (AV.cvs B O p vs) xs
  | [], xs, h => by simpa [AV.cvs, RepL] using h
  | v :: vs, xs, h => by
    simp only [AV.cvs, RepL] at h ⊢
    obtain ⟨y, ys, hx, h1, h2⟩ := h
    exact ⟨y, ys, hx, rep_cv hc hU v y h1, repL_cv hc hU vs ys h2⟩
end
theorem ob_cv {c : Ctx} {N : Nat} {T : List (Nat × AV)} {O : List (Nat × Ob)} {a : Act} {w : World} {ρ : Nat → Value} {S : Bool → Nat → Prop} {B : Bool} {p : Nat → Bool} {U' : Nat → Prop} (hc : Conc c N ⟨T, O⟩ a w ρ S) (hU : ∀ l, p l = true → U' l)
    {l : Nat} {ob : Ob} (hl : ok O l = some ob) : ObOk w ρ (seenS B O p ρ S) U' l (ob.cv B O p) := by
  have h := hc.O l ob hl
  cases ob with
  | box cs =>
    obtain ⟨b, ty, xs, h1, h2, h3, h4⟩ := h
    exact ⟨b, ty, xs, h1, h2, h3, repL_cv hc hU _ _ h4⟩
  | row e k cs =>
    obtain ⟨n, xs, h1, h2, h3⟩ := h
    exact ⟨n, xs, h1, h2, repL_cv hc hU _ _ h3⟩
  | rowd e k f es =>
    obtain ⟨h0, xs, h1, h2, h3⟩ := h
    simp only [Ob.cv]
    split
    · trivial
    · rename_i hf
      have := repL_cv (B := B) (p := p) hc hU _ _ h3
      rw [cvs_lift (by simpa using hf)] at this
      exact ⟨h0, xs, h1, h2, this⟩
  | mp P k ks =>
    exact h
  | dead => trivial
  | arr e k f es =>
    obtain ⟨b, xs, h1, h2, h3, h4, h5⟩ := h
    simp only [Ob.cv]
    split
    · trivial
    · rename_i hf
      refine ⟨b, xs, h1, h2, h3, h4, fun i d hd => ⟨(h5 i d hd).1, ?_, (h5 i d hd).2.2⟩⟩
      have := repL_cv (B := B) (p := p) hc hU _ _ (h5 i d hd).2.1
      rw [cvs_lift (by simpa using hf)] at this
      exact this
  | mx it P k kvs cur =>
    simp only [Ob.cv, ObOk] at h ⊢
    exact h.mono (fun b hb => ⟨rfl, .inl hb⟩) (fun _ _ => rfl) (fun _ _ => rfl)
def argT : Nat → List AV → List (Nat × AV)
  | _, [] => []
  | i, v :: vs => (i, v) :: argT (i + 1) vs
abbrev DOk (m : Bool) (c : Ctx) : Prop := Nonempty (PLift (c.D → m = true))
instance dOk_true (c : Ctx) : DOk true c := ⟨⟨fun _ => rfl⟩⟩
theorem DOk.no {c : Ctx} (h : DOk false c) : ¬ c.D := fun hd => by obtain ⟨⟨k⟩⟩ := h; exact Bool.false_ne_true (k hd)
def ACx (m : Bool) (P : Program) (f : FuncId) (args : List AV) (O : List (Nat × Ob)) (Post : AV → List (Nat × Ob) → Prop) : Prop :=
  ∀ (c : Ctx) (w : World) (vs : List Value) (ρ : Nat → Value) (S : Bool → Nat → Prop), c.w0 = w → (∀ l, c.L l ↔ inD O l = true) → ((∀ b, ¬ S true b) ∧ ∀ b, ¬ c.Q b) → DOk m c → Conc c args.length ⟨argT 0 args, O⟩ ⟨vs.toArray, []⟩ w ρ S →
    Calls P f vs.toArray w fun e w' => ∃ v r O', e = .returned v ∧ Post r O' ∧ C c 1 ⟨[(0, r)], O'⟩ ⟨#[v], []⟩ w'
abbrev AC := ACx false
theorem lk_argT {w : World} {ρ : Nat → Value} {S : Bool → Nat → Prop} {U : Nat → Prop} : ∀ {az : List AV} {xs : List Value} (i : Nat), RepL w ρ S U az xs → ∀ t v, lk (argT i az) t = some v → ∃ j, t = i + j ∧ ∃ x, xs[j]? = some x ∧ Rep w ρ S U v x
  | [], xs, i, h, t, v, ht => by simp [argT, lk] at ht
  | a :: az, xs, i, h, t, v, ht => by
    simp only [RepL] at h
    obtain ⟨y, ys, rfl, h1, h2⟩ := h
    simp only [argT, qcd] at ht
    split at ht
    · rename_i e
      simp only [Option.some.injEq] at ht; subst ht
      exact ⟨0, by omega, y, by simp, h1⟩
    · obtain ⟨j, rfl, x, hx, hv⟩ := lk_argT (i + 1) h2 t v ht
      exact ⟨j + 1, by omega, x, by simpa using hx, hv⟩
def resA (P : Program) (σ : St) : ResultVar → Option AV
  | .tmp t => lk σ.T t
  | .cell a _ => match lk σ.T a with
    | some (.ptr l 0) => match ok σ.O l with
      | some (.box cs) => match cs with
        | [v] => some v
        | cs => some (.agg cs)
      | _ => none
    | _ => none
def resT (P : Program) (σ : St) : ResultVar → Bool
  | .tmp _ => true
  | .cell a ty => match lk σ.T a with
    | some (.ptr l 0) => match ok σ.O l with
      | some (.box cs) => tfB P ty (!(cs.length == 1)) cs.length
      | _ => false
    | _ => false
def resAs (P : Program) (σ : St) : List ResultVar → Option (List AV)
  | [] => some []
  | r :: rs => match resA P σ r, resT P σ r, resAs P σ rs with
    | some v, true, some vs => some (v :: vs)
    | _, _, _ => none
def resV : List AV → AV
  | [v] => v
  | vs => .tup vs
section
variable {P : Program} {c : Ctx} {N : Nat} {Q : Exit → St → Prop} {σ : St} {o : Oper}
theorem run_resA {a : Act} {w : World} {ρ : Nat → Value} {S : Bool → Nat → Prop} (hc : Conc c N σ a w ρ S) {r : ResultVar} {v : AV} (h : resA P σ r = some v) (ht : resT P σ r = true) :
    ∃ x, ((match r with | .tmp t => pure (a.tmps.getD t undef) | .cell b ty => do loadVar ty (← asAddr (a.tmps.getD b undef)) : Sem Value)).run P w = .ok x w ∧ Rep w ρ S σ.U v x := by
  cases r with
  | tmp t => exact ⟨_, rfl, hc.T t v h⟩
  | cell b ty =>
    simp only [resA, resT] at h ht
    split at h
    · rename_i l hl
      split at h
      · rename_i cs hcs
        have hb := hc.T b _ hl
        simp only [Rep] at hb
        obtain ⟨_, g, hg, hbe⟩ := hb
        obtain ⟨b', t', xs, h1, h2, h3, h4⟩ := hc.O l _ hcs
        rw [h1] at hg; simp only [blk, Option.some.injEq] at hg; subst hg
        have hlen := h4.length
        rw [hl] at ht
        simp only [hcs] at ht
        have hrun := qcE (P := P) ht w b' 0 xs hlen (fun j u hu => by rw [Nat.zero_add, qdp h2]; exact hu)
        refine ⟨mkV (!(cs.length == 1)) xs, ?_, ?_⟩
        · simp only [hbe]
          simp [Sem.run_bind, asAddr, hrun]
        · refine rep_mkA (n := cs.length) ?_ h3 h4
          split at h
          · simp only [Option.some.injEq] at h; subst h; simp [mkA]
          · rename_i hne
            simp only [Option.some.injEq] at h; subst h
            have : (cs.length == 1) = false := by
              cases hb : cs.length == 1 with
              | false => rfl
              | true =>
                have h1 : cs.length = 1 := by simpa using hb
                obtain ⟨z, hz⟩ := List.length_eq_one_iff.1 h1
                exact absurd hz (hne z)
            simp [mkA, this]
      · simp at h
    · simp at h
theorem run_resAs {a : Act} {w : World} {ρ : Nat → Value} {S : Bool → Nat → Prop} (hc : Conc c N σ a w ρ S) : ∀ {rs : List ResultVar} {vs : List AV}, resAs P σ rs = some vs →
    ∃ xs : List Value, (rs.mapM (m := Sem) fun r => match r with | .tmp t => pure (a.tmps.getD t undef) | .cell b ty => do loadVar ty (← asAddr (a.tmps.getD b undef))).run P w = .ok xs w ∧ RepL w ρ S σ.U vs xs
  | [], vs, h => by
    simp only [resAs, Option.some.injEq] at h; subst h
    exact ⟨[], by simp, by simp [RepL]⟩
  | r :: rs, vs, h => by
    simp only [resAs] at h
    split at h
    · rename_i v vs' h1 h2 h3
      simp only [Option.some.injEq] at h; subst h
      obtain ⟨x, hx, hv⟩ := run_resA hc h1 h2
      obtain ⟨xs, hxs, hvs⟩ := run_resAs hc h3
      refine ⟨x :: xs, ?_, by simp only [RepL]; exact ⟨x, xs, rfl, hv, hvs⟩⟩
      simp only [List.mapM_cons, Sem.run_bind, hx, Result.andThen_ok, hxs, Sem.run_pure]
    · simp at h
def retQ (P : Program) (c : Ctx) (N : Nat) (rs : List ResultVar) (Post : AV → List (Nat × Ob) → Prop) : Exit → St → Prop := fun e σ =>
  (e = .ret ∨ e = .normal) ∧ ∃ σ' vs O', Sub c N σ σ' ∧ resAs P σ' rs = some vs ∧ SubO O' σ'.O ∧ AV.allLs (inD O') vs = true ∧ allO (inD O') O' = true ∧ (∀ l, c.L l → inD O' l = true) ∧ Post (resV vs) O'
theorem AC_core {f : FuncId} {fn : Func} {x : Code} {args : List AV} {O : List (Nat × Ob)} {Post : AV → List (Nat × Ob) → Prop} {q : Ctx → Prop} (hf : P.funcs[f]? = some fn) (hb : fn.body = some x) (hN : fn.ntmps = N) (hn : args.length ≤ N)
    (H : ∀ c, (∀ l, c.L l ↔ inD O l = true) → q c → awp P c N x (retQ P c N fn.results.toList Post) ⟨argT 0 args, O⟩) :
    ∀ (c : Ctx) (w : World) (vs : List Value) (ρ : Nat → Value) (S : Bool → Nat → Prop), c.w0 = w → (∀ l, c.L l ↔ inD O l = true) → q c → Conc c args.length ⟨argT 0 args, O⟩ ⟨vs.toArray, []⟩ w ρ S →
    Calls P f vs.toArray w fun e w' => ∃ v r O', e = .returned v ∧ Post r O' ∧ C c 1 ⟨[(0, r)], O'⟩ ⟨#[v], []⟩ w' := by
  intro c w vs ρ S hw0 hL hQ hc
  have hvl : vs.length = args.length := by have := hc.tm; simpa using this
  refine calls_of_wp hf hb ?_
  have hc' : Conc c N ⟨argT 0 args, O⟩ { tmps := vs.toArray ++ Array.replicate (fn.ntmps - vs.toArray.size) undef, defers := [] } w ρ S := by
    refine { hc with tm := by simp; omega, df := rfl, T := fun t v ht => ?_ }
    have h1 := hc.T t v ht
    have hlt : t < vs.length := by
      rw [hvl]
      have : ∀ (az : List AV) (i t : Nat) (v : AV), lk (argT i az) t = some v → t < i + az.length := by
        intro az
        induction az with
        | nil => intro i t v h; simp [argT, lk] at h
        | cons a az ih =>
          intro i t v h
          simp only [argT, qcd] at h
          split at h
          · simp; omega
          · have := ih (i + 1) t v h; simp; omega
      have := this args 0 t v ht
      omega
    have : (vs.toArray ++ Array.replicate (fn.ntmps - vs.toArray.size) undef).getD t undef = vs.toArray.getD t undef := by
      rw [Array.getD_eq_getD_getElem?, Array.getD_eq_getD_getElem?, Array.getElem?_append_left (by simpa using hlt)]
    simp only at h1 ⊢
    rw [this]; exact h1
  refine Code.wp_mono ?_ (H c hL hQ _ w ⟨ρ, S, hc'⟩)
  rintro e a' w' ⟨σ', hσ, he, σ2, rvs, O', hsub, hres, hO', hvO, hOO, hL', hP⟩
  obtain ⟨ρ2, S2, h2⟩ := hsub a' w' hσ
  obtain ⟨xs, hxs, hrep⟩ := run_resAs h2 hres
  have hrun : (results fn a'.tmps).run P w' = .ok (if h : xs.toArray.size = 1 then xs.toArray[0] else .tuple xs.toArray) w' := by
    unfold results
    rw [Array.mapM_eq_mapM_toList]
    rw [Sem.run_bind]
    simp only [map_eq_pure_bind, Sem.run_bind]
    erw [hxs]
    rfl
  have hx : ∃ v, (if h : xs.toArray.size = 1 then xs.toArray[0] else .tuple xs.toArray) = v ∧ Rep w' ρ2 S2 σ2.U (resV rvs) v := by
    have hl := hrep.length
    match rvs, xs, hrep, hl with
    | [], [], h, _ => exact ⟨_, rfl, by simp only [resV, Rep]; exact ⟨[], rfl, h⟩⟩
    | [v], [x], h, _ =>
      simp only [RepL] at h
      obtain ⟨y, ys, h1, h2, _⟩ := h
      simp only [List.cons.injEq] at h1
      exact ⟨_, rfl, by simp only [resV]; rw [h1.1]; simpa using h2⟩
    | v :: u :: vs, x :: y :: zs, h, _ => exact ⟨_, rfl, by simp only [resV, Rep]; exact ⟨x :: y :: zs, by simp, h⟩⟩
    | [], _ :: _, _, hl => simp at hl
    | [_], [], _, hl => simp at hl
    | [_], _ :: _ :: _, _, hl => simp at hl
    | _ :: _ :: _, [], _, hl => simp at hl
    | _ :: _ :: _, [_], _, hl => simp at hl
  obtain ⟨v, hv, hvr⟩ := hx
  rw [hv] at hrun
  have hall : (resV rvs).allL (inD O') = true := by
    match rvs, hvO with
    | [], _ => rfl
    | [u], h => simpa [resV, AV.allLs] using h
    | u :: u' :: us, h => simpa [resV, AV.allL] using h
  have hp : ∀ l, inD O' l = true → σ2.U l → St.U ⟨[(0, resV rvs)], O'⟩ l ∧ ρ2 l = ρ2 l := fun l hl _ => ⟨hl, rfl⟩
  have hfin : Conc c 1 ⟨[(0, resV rvs)], O'⟩ ⟨#[v], []⟩ w' ρ2 S2 := by
    refine ⟨rfl, rfl, fun t u ht => ?_, fun l ob hl => ?_, fun l l' ob ob' b h1 h3 => h2.dj l l' ob ob' b (hO' l ob h1) (hO' l' ob' h3), fun l ob b f h1 => h2.dS l ob b f (hO' l ob h1), fun l ob b h1 => h2.wr l ob b (hO' l ob h1), fun l ob b h1 => h2.lt l ob b (hO' l ob h1), h2.SS, h2.Sb, h2.Sn, h2.So, fun l hl => ⟨hL' l hl, (h2.lo l hl).2⟩, h2.fm⟩
    · simp only [qcd] at ht
      split at ht
      · rename_i e; subst e
        simp only [Option.some.injEq] at ht; subst ht
        exact Rep.move (fun _ _ h => h) (fun _ _ _ => rfl) hp _ _ hall hvr
      · simp [lk] at ht
    · exact (h2.O l ob (hO' l ob hl)).move (fun _ _ h => h) (fun _ _ _ => rfl) hp rfl (allO_get hOO hl) (fun _ _ => rfl)
  rcases he with rfl | rfl
  · exact ⟨h2.df, v, hrun, v, resV rvs, O', rfl, hP, ρ2, S2, hfin⟩
  · exact ⟨h2.df, v, hrun, v, resV rvs, O', rfl, hP, ρ2, S2, hfin⟩
theorem qF {m : Bool} {f : FuncId} {fn : Func} {x : Code} {args : List AV} {O : List (Nat × Ob)} {Post : AV → List (Nat × Ob) → Prop} (hf : P.funcs[f]? = some fn) (hb : fn.body = some x) (hN : fn.ntmps = N) (hn : args.length ≤ N)
    (H : ∀ c, (∀ l, c.L l ↔ inD O l = true) → (∀ b, ¬ c.Q b) → DOk m c → awp P c N x (retQ P c N fn.results.toList Post) ⟨argT 0 args, O⟩) : ACx m P f args O Post :=
  fun c w vs ρ S h0 hL h2 hD hc => AC_core (q := fun c => (∀ b, ¬ c.Q b) ∧ DOk m c) hf hb hN hn (fun c h1 h2 => H c h1 h2.1 h2.2) c w vs ρ S h0 hL ⟨h2.2, hD⟩ hc
end
end Go.Proofs.YtpgceiijoedppaaGreat

namespace Go.Proofs.YtpgceiijoedppaaGreat
open Go
mutual
theorem allL_true : ∀ v : AV, v.allL (fun _ => true) = true
  | .any => rfl
  | .imm _ => rfl
  | .dat _ _ _ => rfl
  | .agg cs => by simp only [AV.allL]; exact allLs_true cs
  | .ptr _ _ => rfl
  | .elp _ _ => rfl
  | .row _ => rfl
  | .fn _ cs => by simp only [AV.allL]; exact allLs_true cs
  | .map _ => rfl
  | .tup cs => by simp only [AV.allL]; exact allLs_true cs
  | .vw _ _ _ _ => rfl
theorem allLs_true : ∀ vs : List AV, AV.allLs (fun _ => true) vs = true
  | [] => rfl
  | v :: vs => by simp only [AV.allLs, allL_true v, allLs_true vs, Bool.and_self]
end
mutual
theorem allQ_true : ∀ v : AV, v.allQ (fun _ => true) = true
  | .any => rfl
  | .imm _ => rfl
  | .dat _ _ _ => rfl
  | .agg cs => by simp only [AV.allQ]; exact qcG cs
  | .ptr _ _ => rfl
  | .elp _ _ => rfl
  | .row _ => rfl
  | .fn _ cs => by simp only [AV.allQ]; exact qcG cs
  | .map _ => rfl
  | .tup cs => by simp only [AV.allQ]; exact qcG cs
  | .vw _ _ _ _ => rfl
theorem qcG : ∀ vs : List AV, AV.allQs (fun _ => true) vs = true
  | [] => rfl
  | v :: vs => by simp only [AV.allQs, allQ_true v, qcG vs, Bool.and_self]
end
theorem oallL_true : ∀ v : Ob, v.allL (fun _ => true) = true
  | .box cs => allLs_true cs
  | .row _ _ cs => allLs_true cs
  | .rowd _ _ _ _ => rfl
  | .mp _ _ _ => rfl
  | .dead => rfl
  | .arr _ _ _ _ => rfl
  | .mx _ _ _ _ _ => rfl
theorem oallQ_true : ∀ v : Ob, v.allQ (fun _ => true) = true
  | .box cs => qcG cs
  | .row _ _ cs => qcG cs
  | .rowd _ _ _ _ => rfl
  | .mp _ _ _ => rfl
  | .dead => rfl
  | .arr _ _ _ _ => rfl
  | .mx _ _ _ _ _ => rfl
theorem ok_append (O' O : List (Nat × Ob)) (l : Nat) : ok (O' ++ O) l = (match ok O' l with | some v => some v | none => ok O l) := by
  induction O' with
  | nil => rfl
  | cons p O' ih =>
    obtain ⟨s, v⟩ := p
    simp only [List.cons_append, qa3]
    by_cases h : s = l
    · simp [h]
    · simp [h, ih]
def PassO (B : Bool) (O Oin : List (Nat × Ob)) : Prop := ∀ l ob', ok Oin l = some ob' → ∃ ob, ok O l = some ob ∧ ob.live ∧ ob' = ob.cv B O (inD Oin)
theorem PassO.nil {B : Bool} {O : List (Nat × Ob)} : PassO B O [] := fun l ob' h => by simp [ok] at h
def allOQ (q : Bool → Bool) : List (Nat × Ob) → Bool
  | [] => true
  | (_, v) :: T => v.allQ q && allOQ q T
theorem allOQ_get {q : Bool → Bool} : ∀ {T : List (Nat × Ob)} {t : Nat} {v : Ob}, allOQ q T = true → ok T t = some v → v.allQ q = true
  | (s, u) :: T, t, v, h, hv => by
    simp only [allOQ, Bool.and_eq_true] at h
    rw [qa3] at hv
    split at hv
    · simp only [Option.some.injEq] at hv; subst hv; exact h.1
    · exact allOQ_get h.2 hv
def qW (P : Program) (g : FuncId) : Prop := ∀ args w, (callFunc g args).run P w = .ok (.enter g args) w
theorem qD {P : Program} {f : FuncId} {fn : Func} (hf : P.funcs[f]? = some fn) (hname : (fn.name == "runtime.NumGoroutine") = false) (hb : fn.body.isNone = false) : qW P f := by
  intro args w
  have hn : fn.name ≠ "runtime.NumGoroutine" := by simpa using hname
  cases hbb : fn.body with
  | none => rw [hbb] at hb; cases hb
  | some c => simp [callFunc, program, Sem.run_bind, Sem.run, hf, hn, hbb]
section
variable {P : Program} {c : Ctx} {N : Nat} {Q : Exit → St → Prop} {σ : St} {o : Oper}
theorem call_core {m : Bool} [hDk : DOk m c] {x : Operand} {xs : List Operand} {tys : Array TypeId} {g : FuncId} {caps avs args : List AV} {T : List (Nat × AV)} {O Oin : List (Nat × Ob)} {Post : AV → List (Nat × Ob) → Prop} {Φ : St → Prop} (B : Bool)
    (ho : o.op = .call { callee := .value x, args := xs.toArray, argTypes := tys }) (hdN : ∀ d, o.dst = some d → d < N) (hen : qW P g)
    (hx : ev T x = some (.fn g caps)) (hxs : xs.map (ev T) = avs.map some) (hcv : AV.cvs B O (inD Oin) (avs ++ caps) = args) (hOin : PassO B O Oin) (hAC : ACx m P g args Oin Post)
    (hfr : ∀ r O', Post r O' → ∀ l, inD O' l = true → inD Oin l = true ∨ inD O l = false)
    (hq : B = true → ∀ r O', Post r O' → r.allQ (fun f => f) = true ∧ allOQ (fun f => f) O' = true)
    (K : ∀ r O', Post r O' → Φ (St.put ⟨T, O' ++ O⟩ o.dst r)) : AOp P c N o ⟨T, O⟩ Φ := by
  rintro a w ⟨ρ, S, hc⟩
  have hf := qaF hc hx
  simp only [Rep] at hf
  obtain ⟨cs, hfe, hcs⟩ := hf
  have has := repL_evs (σ := ⟨T, O⟩) hc (fun _ _ _ h => h) hxs
  have hall := repL_cv (B := B) (p := inD Oin) (U' := St.U ⟨argT 0 args, Oin⟩) hc (fun l h => h) _ _ (has.append hcs)
  rw [hcv] at hall
  have hpl : ∀ l, inD Oin l = true → ∃ ob, ok O l = some ob ∧ ob.live := fun l hl => by
    obtain ⟨ob', h'⟩ := Option.isSome_iff_exists.1 (show (ok Oin l).isSome = true from hl)
    obtain ⟨ob, h1, h2, _⟩ := hOin l ob' h'
    exact ⟨ob, h1, h2⟩
  let W : Nat → Prop := fun b => ∃ l, inD Oin l = true ∧ blk (ρ l) = some b
  let cc : Ctx := ⟨w, W, seen B O (inD Oin) ρ S, ρ, fun l => inD Oin l = true, fun _ => False, c.D, fun _ => False⟩
  have hseen : ∀ b, seen B O (inD Oin) ρ S b → b < w.heap.size ∧ ∀ l, inD Oin l = true → blk (ρ l) ≠ some b := by
    intro b hb
    rcases hb with h | ⟨_, h | ⟨l, e, k, f, es, h1, h2, h3⟩⟩
    · exact ⟨hc.Sb _ b h, fun l hl e => by obtain ⟨ob, h1, h2⟩ := hpl l hl; exact hc.dS l ob b _ h1 h2 e h⟩
    · exact ⟨hc.Sb _ b h, fun l hl e => by obtain ⟨ob, h1, h2⟩ := hpl l hl; exact hc.dS l ob b _ h1 h2 e h⟩
    · refine ⟨hc.lt l _ b h1 trivial h3, fun m hm e' => ?_⟩
      obtain ⟨ob, h4, h5⟩ := hpl m hm
      have := hc.dj m l ob _ b h4 h1 h5 trivial e' h3
      subst this; rw [hm] at h2; cases h2
  have hent : Conc cc args.length ⟨argT 0 args, Oin⟩ ⟨(xs.map a.eval ++ cs).toArray, []⟩ w ρ (seenS B O (inD Oin) ρ S) := by
    refine ⟨by have := hall.length; simpa using this, rfl, fun t v ht => ?_, fun l ob' hl => ?_, fun l l' ob ob' b h1 h2 h3 h4 h5 h6 => ?_, fun l ob b f h1 h2 h3 h4 => ?_, fun l ob b h1 h2 h3 => ?_, fun l ob b h1 h2 h3 => ?_, fun b h => (by cases h.1.1), fun f b h => (hseen b h.2).1, fun b h => (by cases h.1), fun b h => .inl h.2, fun l hl => ⟨hl, rfl⟩, Fm.start (c := cc) (fun _ h => h.elim) (fun _ h => h.elim) (fun b h => (by cases h.1))⟩
    · obtain ⟨j, h1, y, hy, hv⟩ := lk_argT 0 hall t v ht
      have : (xs.map a.eval ++ cs).toArray.getD t undef = y := by
        rw [Array.getD_eq_getD_getElem?]
        simp only [List.getElem?_toArray]
        rw [h1, Nat.zero_add, hy]; rfl
      simp only
      rw [this]; exact hv
    · obtain ⟨ob, h1, h2, rfl⟩ := hOin l ob' hl
      exact ob_cv hc (fun l h => h) h1
    · obtain ⟨o1, k1, k2, rfl⟩ := hOin l ob h1
      obtain ⟨o2, k3, k4, rfl⟩ := hOin l' ob' h2
      exact hc.dj l l' o1 o2 b k1 k3 k2 k4 h5 h6
    · exact (hseen b h4.2).2 l (by simp [inD, h1]) h3
    · have hl : inD Oin l = true := by simp [inD, h1]
      exact .inr ⟨hl, l, hl, h3⟩
    · obtain ⟨o1, k1, k2, rfl⟩ := hOin l ob h1
      exact hc.lt l o1 b k1 k2 h3
  have hcall := hAC cc w (xs.map a.eval ++ cs) ρ _ rfl (fun l => Iff.rfl) ⟨fun b h => (by cases h.1), fun b h => h⟩ hDk hent
  have hex : (execOp a.eval o).run P w = .ok (.enter g (xs.map a.eval ++ cs).toArray) w := by
    simp only [execOp, ho, resolve]
    simp [Sem.run_bind, hfe, Deferred.ofValue, invoke, hen _ _]
  unfold Oper.wp
  rw [hex]
  simp only [Oper.upon_enter]
  refine Calls.mono hcall ?_
  rintro e w' ⟨v, r, O', rfl, hP, ρ', S', h'⟩
  simp only
  refine ⟨_, ?_, K r O' hP⟩
  have hfar := h'.fm
  have hsz : w.heap.size ≤ w'.heap.size := hfar.size
  have hin : ∀ l, inD Oin l = true → inD O' l = true ∧ ρ' l = ρ l := fun l hl => h'.lo l hl
  have hw0 := hc.fm.size
  let ρ'' : Nat → Value := fun l => if inD O' l = true then ρ' l else ρ l
  let S'' : Bool → Nat → Prop := fun f b => S f b ∨ (S' f b ∧ w.heap.size ≤ b)
  have hρ1 : ∀ l, inD O' l = true → ρ'' l = ρ' l := fun l hl => if_pos hl
  have hρ2 : ∀ l, inD O l = true → ρ'' l = ρ l := fun l hl => by
    by_cases h : inD O' l = true
    · rw [hρ1 l h]
      rcases hfr r O' hP l h with h1 | h1
      · exact (hin l h1).2
      · rw [hl] at h1; cases h1
    · exact if_neg h
  have hnW : ∀ l ob b, ok O l = some ob → ob.live → inD O' l = false → blk (ρ l) = some b → ¬ W b := fun l ob b h1 h2 h3 h4 ⟨m, hm, hb⟩ => by
    obtain ⟨o1, k1, k2⟩ := hpl m hm
    have := hc.dj m l o1 ob b k1 h1 k2 h2 hb h4
    subst this; rw [(hin m hm).1] at h3; cases h3
  have hSW : ∀ f b, S f b → w'.heap[b]? = w.heap[b]? := fun f b hb => hfar.block b (hc.Sb f b hb) fun ⟨m, hm, e⟩ => by
    obtain ⟨o1, k1, k2⟩ := hpl m hm
    exact hc.dS m o1 b f k1 k2 e hb
  have hUO : ∀ l, inD O l = true → St.U ⟨T, O' ++ O⟩ l := fun l hl => by
    simp only [St.U, ok_append]
    split
    · rfl
    · exact hl
  have hUO' : ∀ l, inD O' l = true → St.U ⟨T, O' ++ O⟩ l := fun l hl => by
    simp only [St.U, ok_append]
    split
    · rfl
    · rename_i h; simp [inD, h] at hl
  let q : Bool → Bool := if B = true then (fun f => f) else fun _ => true
  have hqS : ∀ f b, q f = true → S' f b → S'' f b := fun f b hqf hb => by
    cases f with
    | true => exact .inr ⟨hb, (h'.Sn b hb).resolve_left (fun h => h)⟩
    | false =>
      by_cases hB : B = true
      · simp [q, hB] at hqf
      · rcases h'.So b hb with h | h
        · rcases h with h | ⟨h, _⟩
          · exact .inl h
          · exact absurd h hB
        · exact .inr ⟨hb, h⟩
  have hqr : r.allQ q = true := by
    by_cases hB : B = true
    · simp only [q, hB, if_true]; exact (hq hB r O' hP).1
    · simp only [q, hB, if_false]; exact allQ_true r
  have hqO : ∀ l ob, ok O' l = some ob → ob.allQ q = true := fun l ob hl => by
    by_cases hB : B = true
    · simp only [q, hB, if_true]; exact allOQ_get (hq hB r O' hP).2 hl
    · simp only [q, hB, if_false]; exact oallQ_true ob
  have hpp : ∀ l, (fun _ : Nat => true) l = true → St.U ⟨[(0, r)], O'⟩ l → St.U ⟨T, O' ++ O⟩ l ∧ ρ'' l = ρ' l := fun l _ hl => ⟨hUO' l hl, hρ1 l hl⟩
  have hsp : ∀ l ob, ok (O' ++ O) l = some ob → ok O' l = some ob ∨ (inD O' l = false ∧ ok O l = some ob) := fun l ob h => by
    rw [ok_append] at h
    split at h
    · rename_i v hv; simp only [Option.some.injEq] at h; subst h; exact .inl hv
    · rename_i hv; exact .inr ⟨by simp [inD, hv], h⟩
  have hblk : ∀ l ob b, ok O' l = some ob → ob.live → blk (ρ'' l) = some b → (inD Oin l = true ∧ blk (ρ l) = some b) ∨ (w.heap.size ≤ b) := fun l ob b h1 h2 h3 => by
    have hl : inD O' l = true := by simp [inD, h1]
    rw [hρ1 l hl] at h3
    rcases h'.wr l ob b h1 h2 h3 with h | ⟨h, _⟩
    · exact .inr h
    · exact .inl ⟨h, by rw [← (hin l h).2]; exact h3⟩
  have hnew : Conc c N ⟨T, O' ++ O⟩ a w' ρ'' S'' := by
    refine ⟨hc.tm, hc.df, fun t v ht => (hc.T t v ht).mono (fun f b h => .inl h) hSW hUO hρ2, fun l ob hl => ?_, fun l l' ob ob' b h1 h2 h3 h4 h5 h6 => ?_, fun l ob b f h1 h2 h3 h4 => ?_, fun l ob b h1 h2 h3 => ?_, fun l ob b h1 h2 h3 => ?_, ?_, ?_, ?_, ?_, fun l hl => ?_, ?_⟩
    · rcases hsp l ob hl with h1 | ⟨h1, h2⟩
      · have hl1 : inD O' l = true := by simp only [inD, h1]; rfl
        exact ObOk.gen hqS (fun _ _ _ _ => rfl) hpp (hρ1 l hl1) (oallL_true ob) (hqO l ob h1) (fun _ _ => rfl) (h'.O l ob h1)
      · by_cases hv : ob.live
        · exact (hc.O l ob h2).mono (fun f b h => .inl h) hSW hUO hρ2 (show St.U ⟨T, O⟩ l by simp [St.U, h2]) (fun b hb => hfar.block b (hc.lt l ob b h2 hv hb) (hnW l ob b h2 hv h1 hb))
        · cases ob <;> first | exact absurd trivial hv | trivial
    · have mix : ∀ l l' ob ob' b, ok O' l = some ob → (inD O' l' = false ∧ ok O l' = some ob') → ob.live → ob'.live → blk (ρ'' l) = some b → blk (ρ'' l') = some b → l = l' := by
        rintro l l' ob ob' b k1 ⟨k2, k3⟩ k4 k5 k6 k7
        have k8 : blk (ρ l') = some b := by rw [← hρ2 l' (by simp [inD, k3])]; exact k7
        rcases hblk l ob b k1 k4 k6 with ⟨k9, k10⟩ | k9
        · obtain ⟨o1, j1, j2⟩ := hpl l k9
          exact hc.dj l l' o1 ob' b j1 k3 j2 k5 k10 k8
        · have := hc.lt l' ob' b k3 k5 k8; omega
      rcases hsp l ob h1 with k1 | k1 <;> rcases hsp l' ob' h2 with k2 | k2
      · rw [hρ1 l (by simp [inD, k1])] at h5
        rw [hρ1 l' (by simp [inD, k2])] at h6
        exact h'.dj l l' ob ob' b k1 k2 h3 h4 h5 h6
      · exact mix l l' ob ob' b k1 k2 h3 h4 h5 h6
      · exact (mix l' l ob' ob b k2 k1 h4 h3 h6 h5).symm
      · rw [hρ2 l (by simp [inD, k1.2])] at h5
        rw [hρ2 l' (by simp [inD, k2.2])] at h6
        exact hc.dj l l' ob ob' b k1.2 k2.2 h3 h4 h5 h6
    · rcases hsp l ob h1 with k1 | ⟨k1, k2⟩
      · rcases h4 with h4 | ⟨h4, h7⟩
        · rcases hblk l ob b k1 h2 h3 with ⟨k9, k10⟩ | k9
          · obtain ⟨o1, j1, j2⟩ := hpl l k9
            exact hc.dS l o1 b f j1 j2 k10 h4
          · have := hc.Sb f b h4; omega
        · rw [hρ1 l (by simp [inD, k1])] at h3
          exact h'.dS l ob b f k1 h2 h3 h4
      · rw [hρ2 l (by simp [inD, k2])] at h3
        rcases h4 with h4 | ⟨h4, h7⟩
        · exact hc.dS l ob b f k2 h2 h3 h4
        · have := hc.lt l ob b k2 h2 h3; omega
    · rcases hsp l ob h1 with k1 | ⟨k1, k2⟩
      · rcases hblk l ob b k1 h2 h3 with ⟨k9, k10⟩ | k9
        · obtain ⟨o1, j1, j2⟩ := hpl l k9
          exact hc.wr l o1 b j1 j2 k10
        · exact .inl (by omega)
      · rw [hρ2 l (by simp [inD, k2])] at h3
        exact hc.wr l ob b k2 h2 h3
    · rcases hsp l ob h1 with k1 | ⟨k1, k2⟩
      · rw [hρ1 l (by simp [inD, k1])] at h3
        exact h'.lt l ob b k1 h2 h3
      · rw [hρ2 l (by simp [inD, k2])] at h3
        exact Nat.lt_of_lt_of_le (hc.lt l ob b k2 h2 h3) hsz
    · rintro b ⟨h1 | ⟨h1, h3⟩, h2 | ⟨h2, h4⟩⟩
      · exact hc.SS b ⟨h1, h2⟩
      · have := hc.Sb _ b h1; omega
      · have := hc.Sb _ b h2; omega
      · exact h'.SS b ⟨h1, h2⟩
    · rintro f b (h1 | ⟨h1, h3⟩)
      · exact Nat.lt_of_lt_of_le (hc.Sb f b h1) hsz
      · exact h'.Sb f b h1
    · rintro b (h1 | ⟨h1, h3⟩)
      · exact hc.Sn b h1
      · exact .inr (by omega)
    · rintro b (h1 | ⟨h1, h3⟩)
      · exact hc.So b h1
      · exact .inr (by omega)
    · obtain ⟨h1, h2⟩ := hc.lo l hl
      exact ⟨hUO l h1, by rw [hρ2 l h1]; exact h2⟩
    · refine hc.fm.grow hfar.toFar0 (fun hd => hfar.dr hd) (fun f b h => ⟨f, .inl h⟩) hSW (fun b h => h.elim .inl fun h => .inr (h'.fm.uf b h.1)) ?_
      rintro b hb ⟨m, hm, e⟩
      obtain ⟨o1, k1, k2⟩ := hpl m hm
      rcases hc.wr m o1 b k1 k2 e with h | h
      · omega
      · exact h.2
  have hrr : Rep w' ρ'' S'' (St.U ⟨T, O' ++ O⟩) r v := by
    have h1 := h'.T 0 r (by simp [qcd])
    exact Rep.gen hqS (fun _ _ _ _ => rfl) hpp r v (allL_true r) hqr h1
  exact ⟨_, _, hnew.put hdN hrr⟩
end
end Go.Proofs.YtpgceiijoedppaaGreat

namespace Go.Proofs.YtpgceiijoedppaaGreat
open Go
structure MS where
  need : List Nat
  v : AV
  new : List (Nat × Ob)
  old : List Nat := []
def deps (o : Oper) : List Nat := (o.after.toList.filter (Region.binds .any)).map (·.on)
def StpU (P : Program) (c : Ctx) (N : Nat) (o : Oper) (σ : St) (need : List Nat) (v : AV) (new : List (Nat × Ob)) (old : List Nat) : Prop :=
  (∀ d, o.dst = some d → d < N) → ∀ σ' : St, (∀ x ∈ o.op.operands, ∀ u, ev σ.T x = some u → ev σ'.T x = some u) → (∀ l ∈ need, ∀ ob, ok σ.O l = some ob → ok σ'.O l = some ob) → (∀ p ∈ new, p.1 ∉ old → ok σ'.O p.1 = none) →
    AOp P c N o σ' (fun σ2 => σ2 = σ'.add o.dst v new)
inductive MStep (P : Program) (c : Ctx) (N : Nat) (ops : Array Oper) (o : Oper) (σ : St) : MS → Prop where
  | run {need : List Nat} {v : AV} {new : List (Nat × Ob)} (hg : o.guard = none) (h : Stp P c N o σ need v new) : MStep P c N ops o σ ⟨need, v, new, []⟩
  | want {j t : Nat} {b : Bool} {need : List Nat} {v : AV} {new : List (Nat × Ob)} (hg : o.guard = some (j, b)) (hj : (ops[j]?).bind (·.dst) = some t) (ht : lk σ.T t = some (.imm (.bool b))) (htN : t < N) (h : Stp P c N o σ need v new) : MStep P c N ops o σ ⟨need, v, new, []⟩
  | skip {j t : Nat} {b b' : Bool} (hg : o.guard = some (j, b)) (hj : (ops[j]?).bind (·.dst) = some t) (ht : lk σ.T t = some (.imm (.bool b'))) (hb : b' ≠ b) (htN : t < N) : MStep P c N ops o σ ⟨[], .imm undef, [], []⟩
  | skipu {j t : Nat} {b : Bool} (hg : o.guard = some (j, b)) (hj : (ops[j]?).bind (·.dst) = some t) (ht : lk σ.T t = some (.imm undef)) (htN : t < N) : MStep P c N ops o σ ⟨[], .imm undef, [], []⟩
  | upd {need : List Nat} {v : AV} {new : List (Nat × Ob)} {old : List Nat} (hg : o.guard = none) (h : StpU P c N o σ need v new old) : MStep P c N ops o σ ⟨need, v, new, old⟩
inductive MRun (P : Program) (c : Ctx) (N : Nat) (ops : Array Oper) : List Oper → St → List MS → St → Prop where
  | nil {σ : St} : MRun P c N ops [] σ [] σ
  | cons {o : Oper} {os : List Oper} {σ σ' : St} {m : MS} {ms : List MS} (hd : ∀ d, o.dst = some d → d < N) (h : MStep P c N ops o σ m) (r : MRun P c N ops os (σ.add o.dst m.v m.new) ms σ') : MRun P c N ops (o :: os) σ (m :: ms) σ'
def chkO (ops : Array Oper) (n : Nat) : Bool :=
  (List.range n).all fun i => match ops[i]? with
    | none => false
    | some o =>
      (o.op.operands.toList.all fun x => match x with
        | .tmp t => (List.range n).all fun j => j == i || ((ops[j]?).bind (·.dst) != some t) || (decide (j < i) && (deps o).contains j)
        | _ => true) &&
      (match o.guard with
        | none => true
        | some (j, _) => decide (j < i) && (deps o).contains j) &&
      ((List.range n).all fun j => j == i || o.dst == none || ((ops[j]?).bind (·.dst) != o.dst))
def chkE (ops : Array Oper) : Bool := (List.range ops.size).all fun i => match ops[i]? with
  | none => false
  | some o => (deps o).all fun d => decide (d < i)
def reachF (ops : Array Oper) : Nat → Nat → Nat → Bool
  | 0, _, _ => false
  | k + 1, j, i => match ops[j]? with
    | none => false
    | some o => (deps o).any fun d => d == i || reachF ops k d i
def chkS (ops : Array Oper) (n : Nat) : Bool := (List.range ops.size).all fun j => decide (j < n) || (List.range j).all fun i => reachF ops ops.size j i
def chkN (ops : Array Oper) (ms : List MS) : Bool :=
  (List.range ms.length).all fun i => match ops[i]?, ms[i]? with
    | some o, some m =>
      (m.need.all fun l => (List.range ms.length).all fun j => match ms[j]? with
        | some m' => !(m'.new.map (·.1)).contains l || (decide (j < i) && (deps o).contains j) || j == i || (decide (i < j) && (match ops[j]? with | some o' => (deps o').contains i | none => false))
        | none => true) &&
      ((m.new.map (·.1)).all fun l => (List.range ms.length).all fun j => match ms[j]? with
        | some m' => j == i || !(m'.new.map (·.1)).contains l || (decide (j < i) && (deps o).contains j && m.old.contains l) || (decide (i < j) && (match ops[j]? with | some o' => (deps o').contains i | none => false))
        | none => true)
    | _, _ => false
section
variable {P : Program} {c : Ctx} {N : Nat} {Q : Exit → St → Prop} {σ : St} {ops : Array Oper}
theorem MRun.at {os : List Oper} {σ σ' : St} {ms : List MS} (h : MRun P c N ops os σ ms σ') : ms.length = os.length ∧ ∃ F : Nat → St, F 0 = σ ∧ F os.length = σ' ∧
    ∀ (i : Nat) (o : Oper), os[i]? = some o → ∃ m, ms[i]? = some m ∧ (∀ d, o.dst = some d → d < N) ∧ MStep P c N ops o (F i) m ∧ F (i + 1) = (F i).add o.dst m.v m.new := by
  induction h with
  | nil => exact ⟨rfl, fun _ => _, rfl, rfl, by simp⟩
  | @cons o os σ σ' m ms hd hs hr ih =>
    obtain ⟨hl, F, h0, h1, h2⟩ := ih
    refine ⟨by simp [hl], fun i => match i with | 0 => σ | i + 1 => F i, rfl, by simpa using h1, ?_⟩
    intro i o' ho
    cases i with
    | zero =>
      simp only [List.getElem?_cons_zero, Option.some.injEq] at ho; subst ho
      exact ⟨m, by simp, hd, hs, h0⟩
    | succ i =>
      obtain ⟨m', hm, k1, k2, k3⟩ := h2 i o' (by simpa using ho)
      exact ⟨m', by simpa using hm, k1, k2, k3⟩
def AtD (ops : Array Oper) (ms : List MS) (σ0 : St) (D : Nat → Prop) (σ : St) : Prop :=
  (∀ t, (∃ j m, D j ∧ ms[j]? = some m ∧ (ops[j]?).bind (·.dst) = some t ∧ lk σ.T t = some m.v) ∨ ((∀ j, D j → j < ms.length → (ops[j]?).bind (·.dst) ≠ some t) ∧ lk σ.T t = lk σ0.T t)) ∧
  (∀ l, (∃ j m, D j ∧ ms[j]? = some m ∧ l ∈ m.new.map (·.1) ∧ (∀ j' m', D j' → ms[j']? = some m' → j < j' → l ∉ m'.new.map (·.1)) ∧ ok σ.O l = ok m.new l) ∨ ((∀ j m, D j → ms[j]? = some m → l ∉ m.new.map (·.1)) ∧ ok σ.O l = ok σ0.O l))
theorem ok_none_of_not_mem : ∀ {L : List (Nat × Ob)} {l : Nat}, l ∉ L.map (·.1) → ok L l = none
  | [], l, _ => rfl
  | (s, v) :: L, l, h => by
    simp only [List.map_cons, List.mem_cons, not_or] at h
    rw [qa3, if_neg (fun e => h.1 e.symm)]
    exact ok_none_of_not_mem h.2
theorem ok_some_of_mem : ∀ {L : List (Nat × Ob)} {l : Nat}, l ∈ L.map (·.1) → ∃ v, ok L l = some v
  | [], l, h => by simp at h
  | (s, v) :: L, l, h => by
    rw [qa3]
    split
    · exact ⟨v, rfl⟩
    · rename_i hne
      simp only [List.map_cons, List.mem_cons] at h
      rcases h with h | h
      · exact absurd h.symm hne
      · exact ok_some_of_mem h
theorem lk_add (σ : St) (d : Option Nat) (v : AV) (new : List (Nat × Ob)) (t : Nat) : lk (σ.add d v new).T t = if d = some t then some v else lk σ.T t := by
  cases d with
  | none => simp [St.add]
  | some d => simp only [St.add, qcd, Option.some.injEq]
theorem ok_add (σ : St) (d : Option Nat) (v : AV) (new : List (Nat × Ob)) (l : Nat) : ok (σ.add d v new).O l = (match ok new l with | some o => some o | none => ok σ.O l) := by
  cases d <;> simp only [St.add, ok_append] <;> rfl
theorem AtD.add {ms : List MS} {σ0 : St} {D : Nat → Prop} {σ : St} (h : AtD ops ms σ0 D σ) {i : Nat} {o : Oper} {m : MS} (ho : ops[i]? = some o) (hm : ms[i]? = some m)
    (h1 : ∀ j, D j → j < ms.length → j ≠ i → ∀ d, o.dst = some d → (ops[j]?).bind (·.dst) ≠ some d) (h2 : ∀ j m', D j → ms[j]? = some m' → j ≠ i → ∀ l, l ∈ m.new.map (·.1) → l ∈ m'.new.map (·.1) → j < i) :
    AtD ops ms σ0 (fun j => D j ∨ j = i) (σ.add o.dst m.v m.new) := by
  have hil : i < ms.length := by rcases List.getElem?_eq_some_iff.1 hm with ⟨h, _⟩; exact h
  refine ⟨fun t => ?_, fun l => ?_⟩
  · by_cases hd : o.dst = some t
    · exact .inl ⟨i, m, .inr rfl, hm, by simp [ho, hd], by rw [lk_add, if_pos hd]⟩
    · rw [lk_add, if_neg hd]
      rcases h.1 t with ⟨j, m', k1, k2, k3, k4⟩ | ⟨k1, k2⟩
      · exact .inl ⟨j, m', .inl k1, k2, k3, k4⟩
      · refine .inr ⟨fun j hj hlt => ?_, k2⟩
        rcases hj with hj | rfl
        · exact k1 j hj hlt
        · simpa [ho] using hd
  · by_cases hl : l ∈ m.new.map (·.1)
    · obtain ⟨v, hv⟩ := ok_some_of_mem hl
      refine .inl ⟨i, m, .inr rfl, hm, hl, fun j' m' hj' hm' hlt hin => ?_, by rw [ok_add, hv]⟩
      rcases hj' with hj' | rfl
      · have := h2 j' m' hj' hm' (by omega) l hl hin; omega
      · omega
    · rw [ok_add, ok_none_of_not_mem hl]
      simp only
      rcases h.2 l with ⟨j, m', k1, k2, k3, kx, k4⟩ | ⟨k1, k2⟩
      · refine .inl ⟨j, m', .inl k1, k2, k3, fun j' m'' hj' hm' hlt => ?_, k4⟩
        rcases hj' with hj' | rfl
        · exact kx j' m'' hj' hm' hlt
        · rw [hm] at hm'; simp only [Option.some.injEq] at hm'; subst hm'; exact hl
      · refine .inr ⟨fun j m' hj hm' => ?_, k2⟩
        rcases hj with hj | rfl
        · exact k1 j m' hj hm'
        · rw [hm] at hm'; simp only [Option.some.injEq] at hm'; subst hm'; exact hl
theorem AtD.congr {ms : List MS} {σ0 : St} {D D' : Nat → Prop} {σ : St} (h : AtD ops ms σ0 D σ) (hD : ∀ j, j < ms.length → (D j ↔ D' j)) : AtD ops ms σ0 D' σ := by
  have hlt : ∀ j m, ms[j]? = some m → j < ms.length := fun j m hm => by rcases List.getElem?_eq_some_iff.1 hm with ⟨h, _⟩; exact h
  refine ⟨fun t => ?_, fun l => ?_⟩
  · rcases h.1 t with ⟨j, m', k1, k2, k3, k4⟩ | ⟨k1, k2⟩
    · exact .inl ⟨j, m', (hD j (hlt j m' k2)).1 k1, k2, k3, k4⟩
    · exact .inr ⟨fun j hj hl => k1 j ((hD j hl).2 hj) hl, k2⟩
  · rcases h.2 l with ⟨j, m', k1, k2, k3, kx, k4⟩ | ⟨k1, k2⟩
    · exact .inl ⟨j, m', (hD j (hlt j m' k2)).1 k1, k2, k3, fun j' m'' hj' hm' => kx j' m'' ((hD j' (hlt j' m'' hm')).2 hj') hm', k4⟩
    · exact .inr ⟨fun j m' hj hm' => k1 j m' ((hD j (hlt j m' hm')).2 hj) hm', k2⟩
theorem sub_lookups {σ σ' : St} (hT : ∀ t, lk σ'.T t = lk σ.T t) (hO : ∀ l, ok σ'.O l = ok σ.O l) : Sub c N σ σ' := by
  rintro a w ⟨ρ, S, hc⟩
  have hU : ∀ l, σ.U l → σ'.U l := fun l h => by simp only [St.U, hO] at h ⊢; exact h
  refine ⟨ρ, S, ⟨hc.tm, hc.df, fun t v ht => (hc.T t v (by rw [← hT]; exact ht)).mono (fun _ _ h => h) (fun _ _ _ => rfl) hU (fun _ _ => rfl), fun l ob hl => (hc.O l ob (by rw [← hO]; exact hl)).mono (fun _ _ h => h) (fun _ _ _ => rfl) hU (fun _ _ => rfl) (by simp only [St.U]; rw [← hO, hl]; rfl) (fun _ _ => rfl),
    fun l l' ob ob' b h1 h2 => hc.dj l l' ob ob' b (by rw [← hO]; exact h1) (by rw [← hO]; exact h2), fun l ob b f h1 => hc.dS l ob b f (by rw [← hO]; exact h1), fun l ob b h1 => hc.wr l ob b (by rw [← hO]; exact h1), fun l ob b h1 => hc.lt l ob b (by rw [← hO]; exact h1), hc.SS, hc.Sb, hc.Sn, hc.So, fun l hl => ?_, hc.fm⟩⟩
  obtain ⟨h1, h2⟩ := hc.lo l hl
  exact ⟨by rw [hO]; exact h1, h2⟩
theorem C_drawn {a : Act} {w : World} (h : C c N σ a w) : C c N σ a { w with drawn := w.drawn + 1 } := by
  obtain ⟨ρ, S, hc⟩ := h
  exact ⟨ρ, S, hc.grow (W := fun _ => False) ⟨rfl, rfl, rfl, Nat.le_refl _, fun _ _ _ => rfl, Nat.le_succ _⟩ (fun _ _ _ h => h) (fun _ _ _ _ _ _ h => h) (fun _ _ h => h.elim)⟩
theorem yielded_of {a : Act} {w : World} {ρ : Nat → Value} {S : Bool → Nat → Prop} (hc : Conc c N σ a w ρ S) {j t : Nat} {b : Bool} (hj : (ops[j]?).bind (·.dst) = some t) (ht : lk σ.T t = some (.imm (.bool b))) (htN : t < N) : yielded ops a.tmps j = some b := by
  have h1 := hc.T t _ ht
  simp only [Rep] at h1
  have hlt : t < a.tmps.size := by rw [hc.tm]; exact htN
  have h2 : a.tmps[t]? = some (.bool b) := by
    rw [Array.getD_eq_getD_getElem?, Array.getElem?_eq_getElem hlt] at h1
    rw [Array.getElem?_eq_getElem hlt]
    simpa using h1
  simp [yielded, hj, h2]
theorem yielded_undef {a : Act} {w : World} {ρ : Nat → Value} {S : Bool → Nat → Prop} (hc : Conc c N σ a w ρ S) {j t : Nat} (hj : (ops[j]?).bind (·.dst) = some t) (ht : lk σ.T t = some (.imm undef)) (htN : t < N) : yielded ops a.tmps j = none := by
  have h1 := hc.T t _ ht
  simp only [Rep] at h1
  have h2 : a.tmps[t]? = some undef := by
    have hlt : t < a.tmps.size := by rw [hc.tm]; exact htN
    rw [Array.getD_eq_getD_getElem?] at h1
    rw [Array.getElem?_eq_getElem hlt] at h1 ⊢
    simpa using h1
  simp [yielded, hj, h2, undef]
theorem mem_ready' {i : Nat} {listed : Array Bool} (h : i ∈ Region.ready .any ops listed) : i < ops.size ∧ listed.getD i true = false ∧ ∃ o, ops[i]? = some o ∧ ∀ d ∈ deps o, listed.getD d false = true := by
  unfold Region.ready at h
  rw [List.mem_filter] at h
  obtain ⟨h1, h2⟩ := h
  have hlt : i < ops.size := by simpa using h1
  simp only [Bool.and_eq_true, Bool.not_eq_true'] at h2
  obtain ⟨h2, h3⟩ := h2
  refine ⟨hlt, h2, ops[i], by simp [hlt], fun d hd => ?_⟩
  simp only [Array.getElem?_eq_getElem hlt, Option.map_some, Option.getD_some] at h3
  simp only [deps, List.mem_map, List.mem_filter] at hd
  obtain ⟨e, ⟨he, hb⟩, rfl⟩ := hd
  have := (Array.all_eq_true_iff_forall_mem.1 h3) e (by simpa using he)
  simpa [hb] using this
theorem ready_of {i : Nat} {listed : Array Bool} {o : Oper} (ho : ops[i]? = some o) (h1 : listed.getD i true = false) (h2 : ∀ d ∈ deps o, listed.getD d false = true) : i ∈ Region.ready .any ops listed := by
  have hlt : i < ops.size := by rcases Array.getElem?_eq_some_iff.1 ho with ⟨h, _⟩; exact h
  unfold Region.ready
  rw [List.mem_filter]
  refine ⟨by simpa using hlt, ?_⟩
  simp only [Bool.and_eq_true, Bool.not_eq_true']
  refine ⟨h1, ?_⟩
  rw [ho]
  simp only [Option.map_some, Option.getD_some]
  refine Array.all_eq_true_iff_forall_mem.2 fun e he => ?_
  by_cases hb : Region.binds .any e = true
  · simp only [hb, Bool.not_true, Bool.false_or]
    exact h2 e.on (by simp only [deps, List.mem_map, List.mem_filter]; exact ⟨e, ⟨by simpa using he, hb⟩, rfl⟩)
  · simp [hb]
theorem reach_listed {listed : Array Bool} (hcl : ∀ j o, ops[j]? = some o → listed.getD j false = true → ∀ d ∈ deps o, listed.getD d false = true) : ∀ (k j i : Nat) (o : Oper), ops[j]? = some o → (∀ d ∈ deps o, listed.getD d false = true) → reachF ops k j i = true → listed.getD i false = true
  | 0, j, i, o, _, _, h => by simp [reachF] at h
  | k + 1, j, i, o, ho, hd, h => by
    simp only [reachF, ho, List.any_eq_true, Bool.or_eq_true, beq_iff_eq] at h
    obtain ⟨d, hdm, h | h⟩ := h
    · subst h; exact hd d hdm
    · cases hod : ops[d]? with
      | none => cases k <;> simp [reachF, hod] at h
      | some od => exact reach_listed hcl k d i od hod (fun e he => hcl d od hod (hd d hdm) e he) h
theorem qdN {listed : Array Bool} {i j : Nat} (d : Bool) (hi : i < listed.size) : (listed.setIfInBounds i true).getD j d = if j = i then true else listed.getD j d := by
  rw [Array.getD_eq_getD_getElem?, Array.getD_eq_getD_getElem?, Array.getElem?_setIfInBounds]
  by_cases h : i = j
  · subst h; simp [hi]
  · simp [h, Ne.symm h]
theorem getD_ff {listed : Array Bool} {i : Nat} (hi : i < listed.size) (d d' : Bool) : listed.getD i d = listed.getD i d' := by
  rw [Array.getD_eq_getD_getElem?, Array.getD_eq_getD_getElem?, Array.getElem?_eq_getElem hi]; rfl
theorem any_rest (hE : chkE ops = true) {n : Nat} (hS : chkS ops n = true) : ∀ (fuel m : Nat) (listed : Array Bool) (a : Act) (w : World), n ≤ m → listed.size = ops.size → (∀ i, i < ops.size → (listed.getD i false = true ↔ i < m)) → ops.size ≤ m + fuel →
    wpList P ops (wQ c N Q) (ops.toList.drop m) a w → wpAny P .any ops (wQ c N Q) fuel listed a w := by
  have hdep : ∀ i o, ops[i]? = some o → ∀ d ∈ deps o, d < i := by
    intro i o ho d hd
    have hlt : i < ops.size := by rcases Array.getElem?_eq_some_iff.1 ho with ⟨h, _⟩; exact h
    have := (List.all_eq_true.1 hE) i (by simpa using hlt)
    rw [ho] at this
    have := (List.all_eq_true.1 this) d hd
    simpa using this
  have hreach : ∀ j, n ≤ j → j < ops.size → ∀ i, i < j → reachF ops ops.size j i = true := by
    intro j hj hlt i hi
    have := (List.all_eq_true.1 hS) j (by simpa using hlt)
    simp only [Bool.or_eq_true, decide_eq_true_eq] at this
    rcases this with h | h
    · omega
    · exact (List.all_eq_true.1 h) i (by simpa using hi)
  intro fuel
  have hready : ∀ (m : Nat) (listed : Array Bool), n ≤ m → listed.size = ops.size → (∀ i, i < ops.size → (listed.getD i false = true ↔ i < m)) → ∀ i ∈ Region.ready .any ops listed, i = m ∧ m < ops.size := by
    intro m listed hm hsz hl i hi
    obtain ⟨h1, h2, o, ho, h3⟩ := mem_ready' hi
    have hnot : ¬ i < m := fun h => by
      have := (hl i h1).2 h
      rw [getD_ff (by omega) false true, h2] at this; cases this
    by_cases he : i = m
    · exact ⟨he, by omega⟩
    · exfalso
      have hr := hreach i (by omega) h1 m (by omega)
      have hm' := reach_listed (listed := listed) (fun j oj hoj hlj d hd => by
        have hjl : j < ops.size := by rcases Array.getElem?_eq_some_iff.1 hoj with ⟨h, _⟩; exact h
        have hjm := (hl j hjl).1 hlj
        have hdj := hdep j oj hoj d hd
        exact (hl d (by omega)).2 (by omega)) _ i m o ho h3 hr
      have := (hl m (by omega)).1 hm'
      omega
  have hempty : ∀ (m : Nat) (listed : Array Bool), listed.size = ops.size → (∀ i, i < ops.size → (listed.getD i false = true ↔ i < m)) → m < ops.size → Region.ready .any ops listed ≠ [] := by
    intro m listed hsz hl hlt he
    have : m ∈ Region.ready .any ops listed := ready_of (o := ops[m]) (by simp [hlt]) (by
      have h1 : ¬ listed.getD m false = true := fun h => by have := (hl m hlt).1 h; omega
      rw [getD_ff (by omega) true false]; simpa using h1) (fun d hd => by
      have hdm := hdep m ops[m] (by simp [hlt]) d hd
      exact (hl d (by omega)).2 hdm)
    rw [he] at this; simp at this
  induction fuel with
  | zero =>
    intro m listed a w hm hsz hl hf hw
    have hr : Region.ready .any ops listed = [] := by
      rw [List.eq_nil_iff_forall_not_mem]
      intro i hi
      have := hready m listed hm hsz hl i hi
      omega
    refine ⟨hr, ?_⟩
    rw [List.drop_eq_nil_of_le (by simpa using hf)] at hw
    exact hw
  | succ fuel ih =>
    intro m listed a w hm hsz hl hf hw
    refine ⟨fun he => ?_, fun i hi => ?_⟩
    · by_cases hlt : m < ops.size
      · exact absurd he (hempty m listed hsz hl hlt)
      · rw [List.drop_eq_nil_of_le (by simpa using Nat.le_of_not_lt hlt)] at hw
        exact hw
    · obtain ⟨rfl, hlt⟩ := hready m listed hm hsz hl i hi
      have hdrop : ops.toList.drop i = ops[i] :: ops.toList.drop (i + 1) := by
        rw [List.drop_eq_getElem_cons (by simpa using hlt)]; simp
      rw [hdrop] at hw
      have hl' : ∀ k, k < ops.size → ((listed.setIfInBounds i true).getD k false = true ↔ k < i + 1) := by
        intro k hk
        rw [qdN false (by omega)]
        by_cases he : k = i
        · simp [he]
        · rw [if_neg he, hl k hk]; omega
      have hK : ∀ a w, wpList P ops (wQ c N Q) (ops.toList.drop (i + 1)) a w → wpAny P .any ops (wQ c N Q) fuel (listed.setIfInBounds i true) a w := fun a w h => ih (i + 1) _ a w (by omega) (by simp [hsz]) hl' (by omega) h
      unfold wpOp
      simp only [Array.getElem?_eq_getElem hlt]
      unfold wpList at hw
      split
      · rename_i hwn
        rw [if_pos hwn] at hw
        exact hw.imp (Oper.wp_mono hK) id
      · rename_i hwn
        rw [if_neg hwn] at hw
        exact hK _ _ hw
theorem awp_draw {id : Nat} {l l1 l2 : List Oper} {ms : List MS} {σ' : St} (hm : P.follows .mixedOrders = true) (hl : l = l1 ++ l2) (hC : chkO l.toArray l1.length = true) (hE : chkE l.toArray = true) (hS : chkS l.toArray l1.length = true)
    (hr : MRun P c N l.toArray l1 σ ms σ') (hN : chkN l.toArray ms = true) (hnew : ∀ m ∈ ms, ∀ p ∈ m.new, p.1 ∉ m.old → ok σ.O p.1 = none) (K : awps P c N l.toArray l2 Q σ') : awp P c N (.region id l.toArray true) Q σ := by
  obtain ⟨hml, F, hF0, hFn, hFs⟩ := hr.at
  have hop : ∀ i, i < l1.length → l.toArray[i]? = l1[i]? := fun i hi => by
    rw [List.getElem?_toArray, hl, List.getElem?_append_left hi]
  have hlsz : l.toArray.size = l1.length + l2.length := by simp [hl]
  have hC1 : ∀ i o, l1[i]? = some o → (∀ t, .tmp t ∈ o.op.operands → ∀ j, j < l1.length → j ≠ i → (l.toArray[j]?).bind (·.dst) = some t → j < i ∧ j ∈ deps o) ∧ (∀ j b, o.guard = some (j, b) → j < i ∧ j ∈ deps o) ∧ (∀ d, o.dst = some d → ∀ j, j < l1.length → j ≠ i → (l.toArray[j]?).bind (·.dst) ≠ some d) := by
    intro i o ho
    have hi : i < l1.length := by rcases List.getElem?_eq_some_iff.1 ho with ⟨h, _⟩; exact h
    have := (List.all_eq_true.1 hC) i (by simpa using hi)
    rw [hop i hi, ho] at this
    simp only [Bool.and_eq_true] at this
    obtain ⟨⟨h1, h2⟩, h3⟩ := this
    refine ⟨fun t ht j hj hne hd => ?_, fun j b hg => ?_, fun d hd j hj hne he => ?_⟩
    · have := (List.all_eq_true.1 h1) (.tmp t) (by simpa using ht)
      have := (List.all_eq_true.1 this) j (by simpa using hj)
      simp only [Bool.or_eq_true, beq_iff_eq, bne_iff_ne, ne_eq, Bool.and_eq_true, decide_eq_true_eq, List.contains_iff_mem] at this
      rcases this with (h | h) | h
      · exact absurd h hne
      · exact absurd hd h
      · exact h
    · rw [hg] at h2
      simpa [List.contains_iff_mem] using h2
    · have := (List.all_eq_true.1 h3) j (by simpa using hj)
      simp only [Bool.or_eq_true, beq_iff_eq, bne_iff_ne, ne_eq] at this
      rcases this with (h | h) | h
      · exact hne h
      · rw [hd] at h; cases h
      · exact h (by rw [hd]; exact he)
  have hN1 : ∀ i o m, l1[i]? = some o → ms[i]? = some m → (∀ k ∈ m.need, ∀ j m', ms[j]? = some m' → k ∈ m'.new.map (·.1) → (j < i ∧ j ∈ deps o) ∨ j = i ∨ (i < j ∧ ∃ o', l.toArray[j]? = some o' ∧ i ∈ deps o')) ∧ (∀ k, k ∈ m.new.map (·.1) → ∀ j m', ms[j]? = some m' → j ≠ i → k ∈ m'.new.map (·.1) → (j < i ∧ j ∈ deps o ∧ k ∈ m.old) ∨ (i < j ∧ ∃ o', l.toArray[j]? = some o' ∧ i ∈ deps o')) := by
    intro i o m ho hmi
    have hi : i < l1.length := by rcases List.getElem?_eq_some_iff.1 ho with ⟨h, _⟩; exact h
    have := (List.all_eq_true.1 hN) i (by simpa using (by omega : i < ms.length))
    rw [hop i hi, ho, hmi] at this
    simp only [Bool.and_eq_true] at this
    obtain ⟨h1, h2⟩ := this
    refine ⟨fun k hk j m' hm' hin => ?_, fun k hk j m' hm' hne hin => ?_⟩
    · have := (List.all_eq_true.1 h1) k hk
      have := (List.all_eq_true.1 this) j (by have : j < ms.length := by { rcases List.getElem?_eq_some_iff.1 hm' with ⟨h, _⟩; exact h }
                                              simpa using this)
      rw [hm'] at this
      simp only [Bool.or_eq_true, Bool.not_eq_true', Bool.and_eq_true, decide_eq_true_eq, List.contains_iff_mem, beq_iff_eq] at this
      rcases this with ((h | h) | h) | h
      · have hc := List.contains_iff_mem.2 hin
        rw [h] at hc; cases hc
      · exact .inl h
      · exact .inr (.inl h)
      · refine .inr (.inr ⟨h.1, ?_⟩)
        have h2 := h.2
        split at h2
        · rename_i o' ho'; exact ⟨o', ho', List.contains_iff_mem.1 h2⟩
        · cases h2
    · have := (List.all_eq_true.1 h2) k hk
      have := (List.all_eq_true.1 this) j (by have : j < ms.length := by { rcases List.getElem?_eq_some_iff.1 hm' with ⟨h, _⟩; exact h }
                                              simpa using this)
      rw [hm'] at this
      simp only [Bool.or_eq_true, Bool.not_eq_true', Bool.and_eq_true, decide_eq_true_eq, List.contains_iff_mem, beq_iff_eq] at this
      rcases this with ((h | h) | h) | h
      · exact absurd h hne
      · have hc := List.contains_iff_mem.2 hin
        rw [h] at hc; cases hc
      · exact .inl ⟨h.1.1, h.1.2, h.2⟩
      · refine .inr ⟨h.1, ?_⟩
        have h2 := h.2
        split at h2
        · rename_i o' ho'; exact ⟨o', ho', List.contains_iff_mem.1 h2⟩
        · cases h2
  have hget : ∀ i, i < l1.length → ∃ o m, l1[i]? = some o ∧ ms[i]? = some m ∧ (∀ d, o.dst = some d → d < N) ∧ MStep P c N l.toArray o (F i) m ∧ F (i + 1) = (F i).add o.dst m.v m.new := by
    intro i hi
    obtain ⟨m, h1, h2, h3, h4⟩ := hFs i l1[i] (by simp [hi])
    exact ⟨l1[i], m, by simp [hi], h1, h2, h3, h4⟩
  have hFD : ∀ i, i ≤ l1.length → AtD l.toArray ms σ (fun j => j < i) (F i) := by
    intro i
    induction i with
    | zero => intro _; rw [hF0]; exact ⟨fun t => .inr ⟨fun j hj => by omega, rfl⟩, fun k => .inr ⟨fun j m hj => by omega, rfl⟩⟩
    | succ i ih =>
      intro hi
      obtain ⟨o, m, ho, hmi, _, _, hstep⟩ := hget i (by omega)
      rw [hstep]
      refine ((ih (by omega)).add (by rw [hop i (by omega)]; exact ho) hmi (fun j hj hlt hne d hd => (hC1 i o ho).2.2 d hd j (by omega) hne) (fun j m' hj hm' hne k hk hin => hj)).congr ?_
      intro j hj
      omega
  have hgo : ∀ (i : Nat) (o : Oper) (m : MS) (D : Nat → Prop) (τ : St), l1[i]? = some o → ms[i]? = some m → ¬ D i → (∀ d ∈ deps o, D d) → (∀ j o', l.toArray[j]? = some o' → D j → ∀ d ∈ deps o', D d) → AtD l.toArray ms σ D τ →
      (∀ x ∈ o.op.operands, ∀ u, ev (F i).T x = some u → ev τ.T x = some u) ∧ (∀ k ∈ m.need, ∀ ob, ok (F i).O k = some ob → ok τ.O k = some ob) ∧ (∀ p ∈ m.new, p.1 ∉ m.old → ok τ.O p.1 = none) ∧ (∀ j b t, o.guard = some (j, b) → (l.toArray[j]?).bind (·.dst) = some t → lk τ.T t = lk (F i).T t) := by
    intro i o m D τ ho hmi hDi hdep hcls hτ
    have hi : i < l1.length := by rcases List.getElem?_eq_some_iff.1 ho with ⟨h, _⟩; exact h
    have hFi := hFD i (by omega)
    have hmlt : ∀ j m', ms[j]? = some m' → j < l1.length := fun j m' h => by rcases List.getElem?_eq_some_iff.1 h with ⟨h, _⟩; omega
    have huniq : ∀ t j j', j < l1.length → j' < l1.length → (l.toArray[j]?).bind (·.dst) = some t → (l.toArray[j']?).bind (·.dst) = some t → j = j' := by
      intro t j j' hj hj' h1 h2
      by_cases he : j = j'
      · exact he
      · exfalso
        have ho' : l1[j]? = some l1[j] := by simp [hj]
        rw [hop j hj, ho'] at h1
        exact (hC1 j l1[j] ho').2.2 t (by simpa using h1) j' hj' (fun e => he e.symm) h2
    have hT : ∀ t, (∀ j, j < l1.length → j ≠ i → (l.toArray[j]?).bind (·.dst) = some t → j < i ∧ j ∈ deps o) → lk τ.T t = lk (F i).T t := by
      intro t ht
      rcases hτ.1 t with ⟨j, mj, k1, k2, k3, k4⟩ | ⟨k1, k2⟩
      · have hj := hmlt j mj k2
        have hne : j ≠ i := fun e => hDi (e ▸ k1)
        obtain ⟨h1, h2⟩ := ht j hj hne k3
        rcases hFi.1 t with ⟨j', mj', q1, q2, q3, q4⟩ | ⟨q1, q2⟩
        · have := huniq t j j' hj (hmlt j' mj' q2) k3 q3
          subst this
          rw [k2] at q2; simp only [Option.some.injEq] at q2; subst q2
          rw [k4, q4]
        · exact absurd k3 (q1 j h1 (by omega))
      · rcases hFi.1 t with ⟨j', mj', q1, q2, q3, q4⟩ | ⟨q1, q2⟩
        · have hj' := hmlt j' mj' q2
          obtain ⟨h1, h2⟩ := ht j' hj' (by omega) q3
          exact absurd q3 (k1 j' (hdep j' h2) (by omega))
        · rw [k2, q2]
    refine ⟨fun x hx u hu => ?_, fun k hk ob hob => ?_, fun p hp hold => ?_, fun j b t hg hj => ?_⟩
    · cases x with
      | tmp t => simp only [ev] at hu ⊢; rw [hT t (fun j hj hne hd => (hC1 i o ho).1 t hx j hj hne hd)]; exact hu
      | const v => exact hu
      | func f => exact hu
      | global g => exact hu
    · have hb : ∀ j mj, D j → ms[j]? = some mj → k ∈ mj.new.map (·.1) → j < i := fun j mj k1 k2 k3 => by
        rcases (hN1 i o m ho hmi).1 k hk j mj k2 k3 with ⟨h1, _⟩ | h | ⟨_, o', ho', h2⟩
        · exact h1
        · exact absurd (h ▸ k1) hDi
        · exact absurd (hcls j o' ho' k1 i h2) hDi
      have hb' : ∀ j mj, j < i → ms[j]? = some mj → k ∈ mj.new.map (·.1) → D j := fun j mj k1 k2 k3 => by
        rcases (hN1 i o m ho hmi).1 k hk j mj k2 k3 with ⟨_, h2⟩ | h | ⟨h, _⟩
        · exact hdep j h2
        · omega
        · omega
      rcases hτ.2 k with ⟨j, mj, k1, k2, k3, kx, k4⟩ | ⟨k1, k2⟩
      · have h1 := hb j mj k1 k2 k3
        rcases hFi.2 k with ⟨j', mj', q1, q2, q3, qx, q4⟩ | ⟨q1, q2⟩
        · have hj' := hb' j' mj' q1 q2 q3
          have : j = j' := by
            rcases Nat.lt_trichotomy j j' with h | h | h
            · exact absurd q3 (kx j' mj' hj' q2 h)
            · exact h
            · exact absurd k3 (qx j mj h1 k2 h)
          subst this
          rw [k2] at q2; simp only [Option.some.injEq] at q2; subst q2
          rw [k4, ← q4]; exact hob
        · exact absurd k3 (q1 j mj h1 k2)
      · rcases hFi.2 k with ⟨j', mj', q1, q2, q3, qx, q4⟩ | ⟨q1, q2⟩
        · exact absurd q3 (k1 j' mj' (hb' j' mj' q1 q2 q3) q2)
        · rw [k2, ← q2]; exact hob
    · have hpm : p.1 ∈ m.new.map (·.1) := List.mem_map.2 ⟨p, hp, rfl⟩
      rcases hτ.2 p.1 with ⟨j, mj, k1, k2, k3, kx, k4⟩ | ⟨k1, k2⟩
      · have hne : j ≠ i := fun e => hDi (e ▸ k1)
        rcases (hN1 i o m ho hmi).2 p.1 hpm j mj k2 hne k3 with ⟨_, _, h⟩ | ⟨_, o', ho', h⟩
        · exact absurd h hold
        · exact absurd (hcls j o' ho' k1 i h) hDi
      · rw [k2]; exact hnew m (List.mem_of_getElem? hmi) p hp hold
    · obtain ⟨h1, h2⟩ := (hC1 i o ho).2.1 j b hg
      refine hT t fun j' hj' hne hd => ?_
      have := huniq t j' j hj' (by omega) hd hj
      subst this
      exact ⟨h1, h2⟩
  have phase : ∀ (fuel : Nat) (listed : Array Bool) (a : Act) (w : World) (τ : St), listed.size = l.toArray.size → (∀ j, l1.length ≤ j → j < l.toArray.size → listed.getD j false = false) → (∀ j o, l.toArray[j]? = some o → listed.getD j false = true → ∀ d ∈ deps o, listed.getD d false = true) →
      l.toArray.size ≤ fuel + ((List.range l.toArray.size).filter fun j => listed.getD j false).length → AtD l.toArray ms σ (fun j => listed.getD j false = true) τ → C c N τ a w → wpAny P .any l.toArray (wQ c N Q) fuel listed a w := by
    have hdep : ∀ i o, l.toArray[i]? = some o → ∀ d ∈ deps o, d < i := by
      intro i o ho d hd
      have hlt : i < l.toArray.size := by rcases Array.getElem?_eq_some_iff.1 ho with ⟨h, _⟩; exact h
      have := (List.all_eq_true.1 hE) i (by simpa using hlt)
      rw [ho] at this
      have := (List.all_eq_true.1 this) d hd
      simpa using this
    have hall : ∀ (fuel : Nat) (listed : Array Bool) (a : Act) (w : World) (τ : St), listed.size = l.toArray.size → (∀ j, l1.length ≤ j → j < l.toArray.size → listed.getD j false = false) → (∀ j, j < l1.length → listed.getD j false = true) → l.toArray.size ≤ l1.length + fuel →
        AtD l.toArray ms σ (fun j => listed.getD j false = true) τ → C c N τ a w → wpAny P .any l.toArray (wQ c N Q) fuel listed a w := by
      intro fuel listed a w τ hsz hhi hlo hf hτ hc
      have hsub : Sub c N τ σ' := by
        have h1 := hFD l1.length (Nat.le_refl _)
        rw [hFn] at h1
        have h2 : AtD l.toArray ms σ (fun j => j < l1.length) τ := hτ.congr fun j hj => ⟨fun _ => by omega, fun h => hlo j h⟩
        refine sub_lookups (fun t => ?_) (fun k => ?_)
        · rcases h1.1 t with ⟨j, mj, k1, k2, k3, k4⟩ | ⟨k1, k2⟩
          · rcases h2.1 t with ⟨j', mj', q1, q2, q3, q4⟩ | ⟨q1, q2⟩
            · have : j = j' := by
                by_cases he : j = j'
                · exact he
                · exfalso
                  have ho' : l1[j]? = some (l1[j]'k1) := by simp [k1]
                  rw [hop j k1, ho'] at k3
                  exact (hC1 j _ ho').2.2 t (by simpa using k3) j' q1 (fun e => he e.symm) q3
              subst this
              rw [k2] at q2; simp only [Option.some.injEq] at q2; subst q2
              rw [k4, q4]
            · exact absurd k3 (q1 j k1 (by omega))
          · rcases h2.1 t with ⟨j', mj', q1, q2, q3, q4⟩ | ⟨q1, q2⟩
            · exact absurd q3 (k1 j' q1 (by omega))
            · rw [k2, q2]
        · rcases h1.2 k with ⟨j, mj, k1, k2, k3, kx, k4⟩ | ⟨k1, k2⟩
          · rcases h2.2 k with ⟨j', mj', q1, q2, q3, qx, q4⟩ | ⟨q1, q2⟩
            · have : j = j' := by
                rcases Nat.lt_trichotomy j j' with h | h | h
                · exact absurd q3 (kx j' mj' q1 q2 h)
                · exact h
                · exact absurd k3 (qx j mj k1 k2 h)
              subst this
              rw [k2] at q2; simp only [Option.some.injEq] at q2; subst q2
              rw [k4, q4]
            · exact absurd k3 (q1 j mj k1 k2)
          · rcases h2.2 k with ⟨j', mj', q1, q2, q3, qx, q4⟩ | ⟨q1, q2⟩
            · exact absurd q3 (k1 j' mj' q1 q2)
            · rw [k2, q2]
      refine any_rest hE hS fuel l1.length listed a w (Nat.le_refl _) hsz (fun i hi => ⟨fun h => ?_, fun h => hlo i h⟩) hf ?_
      · by_cases hlt : i < l1.length
        · exact hlt
        · rw [hhi i (by omega) hi] at h; cases h
      · have : l.toArray.toList.drop l1.length = l2 := by simp [hl]
        rw [this]
        exact K a w (hsub a w hc)
    have hleast : ∀ (listed : Array Bool), listed.size = l.toArray.size → (∃ j, j < l1.length ∧ listed.getD j false = false) → ∃ j, j < l1.length ∧ j ∈ Region.ready .any l.toArray listed := by
      rintro listed hsz ⟨j0, hj0, hn0⟩
      have key : ∀ k, k < l1.length → listed.getD k false = false → ∃ j, j < l1.length ∧ j ∈ Region.ready .any l.toArray listed := by
        intro k
        induction k using Nat.strongRecOn with
        | _ k ih =>
          intro hk hn
          have ho : l.toArray[k]? = some (l1[k]'hk) := by rw [hop k hk]; simp [hk]
          by_cases hd : ∀ d ∈ deps (l1[k]'hk), listed.getD d false = true
          · exact ⟨k, hk, ready_of ho (by rw [getD_ff (by omega) true false]; exact hn) hd⟩
          · simp only [Classical.not_forall] at hd
            obtain ⟨d, hd1, hd2⟩ := hd
            have := hdep k _ ho d hd1
            exact ih d this (by omega) (by simpa using hd2)
      exact key j0 hj0 hn0
    intro fuel
    induction fuel with
    | zero =>
      intro listed a w τ hsz hhi hcl hf hτ hc
      have hcount : ∀ j, j < l.toArray.size → listed.getD j false = true := by
        intro j hj
        have hle := List.length_filter_le (fun j => listed.getD j false) (List.range l.toArray.size)
        rw [List.length_range] at hle
        have heq : ((List.range l.toArray.size).filter fun j => listed.getD j false).length = (List.range l.toArray.size).length := by rw [List.length_range]; omega
        have := List.length_filter_eq_length_iff.1 heq j (by simpa using hj)
        exact this
      exact hall 0 listed a w τ hsz hhi (fun j hj => hcount j (by omega)) (by
        by_cases h : l2.length = 0
        · omega
        · have := hhi l1.length (Nat.le_refl _) (by omega)
          rw [hcount l1.length (by omega)] at this; cases this) hτ hc
    | succ fuel ih =>
      intro listed a w τ hsz hhi hcl hf hτ hc
      by_cases hdone : ∀ j, j < l1.length → listed.getD j false = true
      · refine hall (fuel + 1) listed a w τ hsz hhi hdone ?_ hτ hc
        have h1 : ((List.range l.toArray.size).filter fun j => listed.getD j false).length ≤ l1.length := by
          have h2 : ∀ (n : Nat), ((List.range (l1.length + n)).filter fun j => decide (j < l1.length)).length = l1.length := by
            intro n
            induction n with
            | zero => rw [List.filter_eq_self.2 (by simp), List.length_range]; omega
            | succ n ihn => rw [← Nat.add_assoc, List.range_succ, List.filter_append, List.length_append, ihn]; simp
          have h3 : ((List.range l.toArray.size).filter fun j => listed.getD j false) = ((List.range l.toArray.size).filter fun j => decide (j < l1.length)) := by
            refine List.filter_congr fun j hj => ?_
            have hj' : j < l.toArray.size := by simpa using hj
            by_cases hlt : j < l1.length
            · rw [hdone j hlt]; simp [hlt]
            · rw [hhi j (by omega) hj']; simp [hlt]
          rw [h3, hlsz, h2]
          exact Nat.le_refl _
        omega
      · simp only [Classical.not_forall] at hdone
        obtain ⟨j0, hj0, hn0⟩ := hdone
        obtain ⟨jr, hjr, hjready⟩ := hleast listed hsz ⟨j0, hj0, by simpa using hn0⟩
        refine ⟨fun he => (by rw [he] at hjready; simp at hjready), fun i hi => ?_⟩
        obtain ⟨hilt, hnl, o, ho, hdl⟩ := mem_ready' hi
        have hi1 : i < l1.length := by
          by_cases h : i < l1.length
          · exact h
          · exfalso
            have h1 := (List.all_eq_true.1 hS) i (by simpa using hilt)
            simp only [Bool.or_eq_true, decide_eq_true_eq] at h1
            rcases h1 with h1 | h1
            · exact h h1
            · have h2 := (List.all_eq_true.1 h1) j0 (by simp; omega)
              have := reach_listed (fun j oj => hcl j oj) _ i j0 o ho hdl h2
              exact hn0 this
        have ho1 : l1[i]? = some o := by rw [← hop i hi1]; exact ho
        obtain ⟨o', m, hoo, hmi, hdN, hms, _⟩ := hget i hi1
        rw [ho1] at hoo; simp only [Option.some.injEq] at hoo; subst hoo
        have hnl' : ¬ (listed.getD i false = true) := by rw [getD_ff (by omega) false true, hnl]; simp
        obtain ⟨g1, g2, g3, g4⟩ := hgo i o m (fun j => listed.getD j false = true) τ ho1 hmi hnl' hdl hcl hτ
        have hlast : ∀ a w, C c N (τ.add o.dst m.v m.new) a w → wpAny P .any l.toArray (wQ c N Q) fuel (listed.setIfInBounds i true) a w := by
          intro a w hc'
          have hisz : i < listed.size := by omega
          refine ih _ a w _ (by simp [hsz]) (fun j h1 h2 => by rw [qdN false hisz, if_neg (by omega)]; exact hhi j h1 h2) (fun j oj hoj hlj d hd => ?_) ?_ ((hτ.add ho hmi (fun j hj hlt hne d hd => (hC1 i o ho1).2.2 d hd j (by omega) hne) (fun j m' hj hm' hne k hk hin => by
            rcases (hN1 i o m ho1 hmi).2 k hk j m' hm' hne hin with ⟨h, _⟩ | ⟨_, o', ho', h⟩
            · exact h
            · exact absurd (hcl j o' ho' hj i h) hnl')).congr fun j hj => ?_) hc'
          · rw [qdN false hisz] at hlj ⊢
            by_cases hji : j = i
            · subst hji
              rw [ho] at hoj; simp only [Option.some.injEq] at hoj; subst hoj
              split
              · rfl
              · exact hdl d hd
            · rw [if_neg hji] at hlj
              split
              · rfl
              · exact hcl j oj hoj hlj d hd
          · have hinc : ((List.range l.toArray.size).filter fun j => listed.getD j false).length + 1 ≤ ((List.range l.toArray.size).filter fun j => (listed.setIfInBounds i true).getD j false).length := by
              have h1 : ∀ (n : Nat), ((List.range n).filter fun j => (listed.setIfInBounds i true).getD j false).length = ((List.range n).filter fun j => listed.getD j false).length + (if i < n then 1 else 0) := by
                intro n
                induction n with
                | zero => simp
                | succ n ihn =>
                  rw [List.range_succ, List.filter_append, List.filter_append, List.length_append, List.length_append, ihn]
                  by_cases hni : n = i
                  · subst hni
                    have h0 : listed.getD n false = false := Bool.eq_false_iff.2 hnl'
                    have h2 : (listed.setIfInBounds n true).getD n false = true := by rw [qdN false hisz, if_pos rfl]
                    simp only [List.filter_cons, h2, h0, List.filter_nil]
                    simp
                  · have : (listed.setIfInBounds i true).getD n false = listed.getD n false := by rw [qdN false hisz, if_neg hni]
                    simp only [List.filter_cons, this, List.filter_nil]
                    by_cases hin : i < n
                    · simp [hin, show i < n + 1 from by omega]; omega
                    · simp [hin, show ¬ i < n + 1 from by omega]
              rw [h1, if_pos hilt]
              exact Nat.le_refl _
            omega
          · rw [qdN false hisz]
            by_cases hji : j = i
            · simp [hji]
            · simp [hji]
        unfold wpOp
        simp only [ho]
        obtain ⟨ρ, S, hcc⟩ := hc
        cases hms with
        | run hg hst =>
          rw [if_pos (by simp [Region.wanted, hg])]
          exact .inl (Oper.wp_weaken (fun a' w' ⟨τ', h1, h2⟩ => hlast a' w' (h2 ▸ h1)) (hst hdN τ g1 g2 (fun p hp => g3 p hp (by simp)) a w ⟨ρ, S, hcc⟩))
        | want hg hj ht htN hst =>
          have hy := yielded_of (ops := l.toArray) hcc hj ((g4 _ _ _ hg hj).trans ht) htN
          rw [if_pos (by simp [Region.wanted, hg, hy])]
          exact .inl (Oper.wp_weaken (fun a' w' ⟨τ', h1, h2⟩ => hlast a' w' (h2 ▸ h1)) (hst hdN τ g1 g2 (fun p hp => g3 p hp (by simp)) a w ⟨ρ, S, hcc⟩))
        | upd hg hst =>
          rw [if_pos (by simp [Region.wanted, hg])]
          exact .inl (Oper.wp_weaken (fun a' w' ⟨τ', h1, h2⟩ => hlast a' w' (h2 ▸ h1)) (hst hdN τ g1 g2 g3 a w ⟨ρ, S, hcc⟩))
        | skip hg hj ht hb htN =>
          have hy := yielded_of (ops := l.toArray) hcc hj ((g4 _ _ _ hg hj).trans ht) htN
          rw [if_neg (by simp only [Region.wanted, hg, hy]; simpa using hb)]
          refine hlast _ _ ⟨ρ, S, ?_⟩
          have := hcc.put (dst := o.dst) (v := .imm undef) (x := undef) hdN (by simp [Rep])
          cases hdst : o.dst <;> simpa [St.put, St.add, hdst] using this
        | skipu hg hj ht htN =>
          have hy := yielded_undef (ops := l.toArray) hcc hj ((g4 _ _ _ hg hj).trans ht) htN
          rw [if_neg (by simp only [Region.wanted, hg, hy]; simp)]
          refine hlast _ _ ⟨ρ, S, ?_⟩
          have := hcc.put (dst := o.dst) (v := .imm undef) (x := undef) hdN (by simp [Rep])
          cases hdst : o.dst <;> simpa [St.put, St.add, hdst] using this
  intro a w hc
  refine wp_region_any hm (phase _ _ a _ σ (by simp) (fun j h1 h2 => ?_) (fun j o ho hlj => ?_) (by simp) ?_ (C_drawn hc))
  · rw [Array.getD_eq_getD_getElem?]; simp only [Array.getElem?_replicate]; split <;> rfl
  · rw [Array.getD_eq_getD_getElem?] at hlj; simp only [Array.getElem?_replicate] at hlj; split at hlj <;> simp at hlj
  · refine ⟨fun t => .inr ⟨fun j hj => ?_, rfl⟩, fun k => .inr ⟨fun j m hj => ?_, rfl⟩⟩ <;> (dsimp only at hj; rw [Array.getD_eq_getD_getElem?] at hj; simp only [Array.getElem?_replicate] at hj; split at hj <;> simp at hj)
theorem awp_drawn (n : Nat) {id : Nat} {l : List Oper} {ms : List MS} {σ' : St} (hm : P.follows .mixedOrders = true) (hn : Nat.ble n l.length = true) (hC : chkO l.toArray n = true) (hE : chkE l.toArray = true) (hS : chkS l.toArray n = true)
    (hr : MRun P c N l.toArray (l.take n) σ ms σ') (hN : chkN l.toArray ms = true) (hnew : ∀ m ∈ ms, ∀ p ∈ m.new, p.1 ∉ m.old → ok σ.O p.1 = none) (K : awps P c N l.toArray (l.drop n) Q σ') : awp P c N (.region id l.toArray true) Q σ := by
  have hl : (l.take n).length = n := by rw [List.length_take]; exact Nat.min_eq_left (Nat.le_of_ble_eq_true hn)
  exact awp_draw hm (List.take_append_drop n l).symm (by rw [hl]; exact hC) hE (by rw [hl]; exact hS) hr hN hnew K
end
end Go.Proofs.YtpgceiijoedppaaGreat

namespace Go.Proofs.YtpgceiijoedppaaGreat
open Go
def swp (a b n : Nat) : Nat := bif Nat.beq n a then b else bif Nat.beq n b then a else n
theorem beq_ite {α : Type} (n a : Nat) (x y : α) : (bif Nat.beq n a then x else y) = if n = a then x else y := by
  by_cases h : n = a
  · subst h; simp
  · rw [Nat.beq_eq_false h, if_neg h]; rfl
theorem swp_swp (a b n : Nat) : swp a b (swp a b n) = n := by
  simp only [swp, beq_ite]
  by_cases h1 : n = a <;> by_cases h2 : n = b <;> simp_all
mutual
def AV.rn (π : Nat → Nat) : AV → AV
  | .any => .any
  | .imm v => .imm v
  | .dat f k es => .dat f k es
  | .agg cs => .agg (AV.rns π cs)
  | .ptr l off => .ptr (π l) off
  | .elp f ds => .elp f ds
  | .row l => .row (π l)
  | .fn f cs => .fn f (AV.rns π cs)
  | .map l => .map (π l)
  | .tup cs => .tup (AV.rns π cs)
  | .vw l off n c => .vw (π l) off n c
def AV.rns (π : Nat → Nat) : List AV → List AV
  | [] => []
  | v :: vs => AV.rn π v :: AV.rns π vs
end
def Ob.rn (π : Nat → Nat) : Ob → Ob
  | .box cs => .box (AV.rns π cs)
  | .row e k cs => .row e k (AV.rns π cs)
  | .rowd e k f es => .rowd e k f es
  | .mp P k ks => .mp P k ks
  | .dead => .dead
  | .arr e k f es => .arr e k f es
  | .mx it P k kvs cur => .mx it P k kvs cur
def rnO (π : Nat → Nat) : List (Nat × Ob) → List (Nat × Ob)
  | [] => []
  | (l, o) :: O => (π l, o.rn π) :: rnO π O
def rnT (π : Nat → Nat) : List (Nat × AV) → List (Nat × AV)
  | [] => []
  | (t, v) :: T => (t, v.rn π) :: rnT π T
theorem lift_rn (π : Nat → Nat) (f : Bool) : ∀ ds : List D, AV.rns π (lift f ds) = lift f ds
  | [] => rfl
  | d :: ds => by
    simp only [lift, List.map_cons, AV.rns]
    have := lift_rn π f ds
    simp only [lift] at this
    rw [this]
    cases d <;> rfl
theorem lk_rnT (π : Nat → Nat) : ∀ (T : List (Nat × AV)) (t : Nat), lk (rnT π T) t = (lk T t).map (AV.rn π)
  | [], t => rfl
  | (s, v) :: T, t => by
    simp only [rnT, qcd]
    split
    · rfl
    · exact lk_rnT π T t
theorem ok_rnO {π : Nat → Nat} (hπ : ∀ n, π (π n) = n) : ∀ (O : List (Nat × Ob)) (l : Nat), ok (rnO π O) l = (ok O (π l)).map (Ob.rn π)
  | [], l => rfl
  | (s, v) :: O, l => by
    simp only [rnO, qa3]
    by_cases h : s = π l
    · subst h; simp [hπ]
    · have : π s ≠ l := fun e => h (by rw [← e, hπ])
      simp only [h, this, if_false]
      exact ok_rnO hπ O l
theorem argT_rn (π : Nat → Nat) : ∀ (i : Nat) (az : List AV), argT i (AV.rns π az) = rnT π (argT i az)
  | _, [] => rfl
  | i, a :: az => by simp only [AV.rns, argT, rnT, argT_rn π (i + 1) az]
theorem rns_length (π : Nat → Nat) : ∀ az : List AV, (AV.rns π az).length = az.length
  | [] => rfl
  | a :: az => by simp [AV.rns, rns_length π az]
mutual
theorem Rep.rn {w : World} {ρ : Nat → Value} {S : Bool → Nat → Prop} {U : Nat → Prop} {π : Nat → Nat} (hπ : ∀ n, π (π n) = n) : ∀ (v : AV) (x : Value), Rep w ρ S U v x → Rep w (fun l => ρ (π l)) S (fun l => U (π l)) (v.rn π) x
  | .any, x, _ => by simp [AV.rn, Rep]
  | .imm v, x, h => by simpa [AV.rn, Rep] using h
  | .dat f k es, x, h => by simpa only [AV.rn, Rep] using h
  | .agg cs, x, h => by
    simp only [AV.rn, Rep] at h ⊢
    obtain ⟨xs, hx, h1, h⟩ := h
    exact ⟨xs, hx, h1, RepL.rn hπ cs xs h⟩
  | .ptr l off, x, h => by
    simp only [AV.rn, Rep, hπ] at h ⊢
    exact h
  | .elp f ds, x, h => by simpa only [AV.rn, Rep] using h
  | .row l, x, h => by
    simp only [AV.rn, Rep, hπ] at h ⊢
    exact h
  | .fn f cs, x, h => by
    simp only [AV.rn, Rep] at h ⊢
    obtain ⟨xs, hx, h⟩ := h
    exact ⟨xs, hx, RepL.rn hπ cs xs h⟩
  | .map l, x, h => by
    simp only [AV.rn, Rep, hπ] at h ⊢
    exact h
  | .tup cs, x, h => by
    simp only [AV.rn, Rep] at h ⊢
    obtain ⟨xs, hx, h⟩ := h
    exact ⟨xs, hx, RepL.rn hπ cs xs h⟩
  | .vw l off n c, x, h => by
    simp only [AV.rn, Rep, hπ] at h ⊢
    exact h
theorem RepL.rn {w : World} {ρ : Nat → Value} {S : Bool → Nat → Prop} {U : Nat → Prop} {π : Nat → Nat} (hπ : ∀ n, π (π n) = n) : ∀ (vs : List AV) (xs : List Value), RepL w ρ S U vs xs → RepL w (fun l => ρ (π l)) S (fun l => U (π l)) (AV.rns π vs) xs
  | [], xs, h => by simpa [AV.rns, RepL] using h
  | v :: vs, xs, h => by
    simp only [AV.rns, RepL] at h ⊢
    obtain ⟨y, ys, hx, h1, h2⟩ := h
    exact ⟨y, ys, hx, Rep.rn hπ v y h1, RepL.rn hπ vs ys h2⟩
end
theorem ObOk.rn {w : World} {ρ : Nat → Value} {S : Bool → Nat → Prop} {U : Nat → Prop} {π : Nat → Nat} (hπ : ∀ n, π (π n) = n) {l : Nat} {o : Ob} (h : ObOk w ρ S U l o) : ObOk w (fun l => ρ (π l)) S (fun l => U (π l)) (π l) (o.rn π) := by
  cases o with
  | box cs =>
    obtain ⟨b, ty, xs, h1, h2, h3, h4⟩ := h
    exact ⟨b, ty, xs, by simpa only [hπ] using h1, h2, h3, RepL.rn hπ _ _ h4⟩
  | row e k cs =>
    obtain ⟨n, xs, h1, h2, h3⟩ := h
    exact ⟨n, xs, by simpa only [hπ] using h1, h2, RepL.rn hπ _ _ h3⟩
  | rowd e k f es =>
    obtain ⟨h0, xs, h1, h2, h3⟩ := h
    have := RepL.rn hπ _ _ h3
    rw [lift_rn] at this
    exact ⟨h0, xs, by simpa only [hπ] using h1, h2, this⟩
  | mp P k ks =>
    obtain ⟨r, h1, h2⟩ := h
    exact ⟨r, by simpa only [hπ] using h1, h2⟩
  | dead => trivial
  | arr e k f es =>
    obtain ⟨b, xs, h1, h2, h3, h4, h5⟩ := h
    refine ⟨b, xs, by simpa only [hπ] using h1, h2, h3, h4, fun i d hd => ⟨(h5 i d hd).1, ?_, (h5 i d hd).2.2⟩⟩
    have := RepL.rn hπ _ _ (h5 i d hd).2.1
    rw [lift_rn] at this
    exact this
  | mx it P k kvs cur =>
    simp only [Ob.rn, ObOk] at h ⊢
    simpa only [hπ] using h
theorem rn_live {π : Nat → Nat} (o : Ob) : (o.rn π).live ↔ o.live := by cases o <;> exact Iff.rfl
theorem Conc.rn {c : Ctx} {N : Nat} {T : List (Nat × AV)} {O : List (Nat × Ob)} {a : Act} {w : World} {ρ : Nat → Value} {S : Bool → Nat → Prop} {π : Nat → Nat} (hπ : ∀ n, π (π n) = n) (h : Conc c N ⟨T, O⟩ a w ρ S) :
    Conc { c with ρ0 := fun l => c.ρ0 (π l), L := fun l => c.L (π l) } N ⟨rnT π T, rnO π O⟩ a w (fun l => ρ (π l)) S := by
  have hok : ∀ l ob, ok (rnO π O) l = some ob → ∃ ob', ok O (π l) = some ob' ∧ ob = ob'.rn π := fun l ob hl => by
    rw [ok_rnO hπ] at hl
    obtain ⟨ob', h1, h2⟩ := Option.map_eq_some_iff.1 hl
    exact ⟨ob', h1, h2.symm⟩
  have hU : ∀ l, St.U ⟨T, O⟩ (π l) ↔ St.U ⟨rnT π T, rnO π O⟩ l := fun l => by simp only [St.U, ok_rnO hπ, Option.isSome_map]
  have hU' : (fun l => St.U ⟨T, O⟩ (π l)) = St.U ⟨rnT π T, rnO π O⟩ := funext fun l => propext (hU l)
  refine ⟨h.tm, h.df, fun t v ht => ?_, fun l ob hl => ?_, fun l l' ob ob' b h1 h2 h3 h4 h5 h6 => ?_, fun l ob b f h1 h2 h3 => ?_, fun l ob b h1 h2 h3 => ?_, fun l ob b h1 h2 h3 => ?_, h.SS, h.Sb, h.Sn, h.So, fun l hl => ?_, ?_⟩
  · rw [show (St.mk (rnT π T) (rnO π O)).T = rnT π T from rfl, lk_rnT] at ht
    obtain ⟨u, hu, rfl⟩ := Option.map_eq_some_iff.1 ht
    rw [← hU']
    exact Rep.rn hπ u _ (h.T t u hu)
  · obtain ⟨ob', h1, rfl⟩ := hok l ob hl
    rw [← hU']
    have := ObOk.rn hπ (h.O (π l) ob' h1)
    rw [hπ] at this
    exact this
  · obtain ⟨o1, k1, rfl⟩ := hok l ob h1
    obtain ⟨o2, k2, rfl⟩ := hok l' ob' h2
    have := h.dj (π l) (π l') o1 o2 b k1 k2 ((rn_live o1).1 h3) ((rn_live o2).1 h4) h5 h6
    rw [← hπ l, ← hπ l', this]
  · obtain ⟨o1, k1, rfl⟩ := hok l ob h1
    exact h.dS (π l) o1 b f k1 ((rn_live o1).1 h2) h3
  · obtain ⟨o1, k1, rfl⟩ := hok l ob h1
    exact h.wr (π l) o1 b k1 ((rn_live o1).1 h2) h3
  · obtain ⟨o1, k1, rfl⟩ := hok l ob h1
    exact h.lt (π l) o1 b k1 ((rn_live o1).1 h2) h3
  · obtain ⟨h1, h2⟩ := h.lo (π l) hl
    exact ⟨(hU l).1 h1, h2⟩
  · exact ⟨h.fm.toFar0, h.fm.dr, h.fm.vq, h.fm.vs, h.fm.sp, h.fm.uf⟩
mutual
theorem rn_rn {π : Nat → Nat} (hπ : ∀ n, π (π n) = n) : ∀ v : AV, (v.rn π).rn π = v
  | .any => rfl
  | .imm v => rfl
  | .dat f k es => rfl
  | .agg cs => by simp only [AV.rn, rns_rns hπ cs]
  | .ptr l off => by simp only [AV.rn, hπ]
  | .elp f ds => rfl
  | .row l => by simp only [AV.rn, hπ]
  | .fn f cs => by simp only [AV.rn, rns_rns hπ cs]
  | .map l => by simp only [AV.rn, hπ]
  | .tup cs => by simp only [AV.rn, rns_rns hπ cs]
  | .vw l off n c => by simp only [AV.rn, hπ]
theorem rns_rns {π : Nat → Nat} (hπ : ∀ n, π (π n) = n) : ∀ vs : List AV, AV.rns π (AV.rns π vs) = vs
  | [] => rfl
  | v :: vs => by simp only [AV.rns, rn_rn hπ v, rns_rns hπ vs]
end
theorem orn_orn {π : Nat → Nat} (hπ : ∀ n, π (π n) = n) (o : Ob) : (o.rn π).rn π = o := by
  cases o with
  | box cs => simp only [Ob.rn, rns_rns hπ]
  | row e k cs => simp only [Ob.rn, rns_rns hπ]
  | rowd e k f es => rfl
  | mp P k ks => rfl
  | dead => rfl
  | arr e k f es => rfl
  | mx it P k kvs cur => rfl
theorem rnO_rnO {π : Nat → Nat} (hπ : ∀ n, π (π n) = n) : ∀ O : List (Nat × Ob), rnO π (rnO π O) = O
  | [] => rfl
  | (l, o) :: O => by simp only [rnO, hπ, orn_orn hπ, rnO_rnO hπ O]
theorem AC_rn {m : Bool} {P : Program} {f : FuncId} {args : List AV} {O : List (Nat × Ob)} {Post : AV → List (Nat × Ob) → Prop} (a b : Nat) (h : ACx m P f args O Post) :
    ACx m P f (AV.rns (swp a b) args) (rnO (swp a b) O) (fun r O' => Post (r.rn (swp a b)) (rnO (swp a b) O')) := by
  have hπ := swp_swp a b
  rintro c w vs ρ S h0 hL hS hD hc
  have h1 := Conc.rn hπ hc
  rw [← argT_rn, rns_rns hπ, rnO_rnO hπ, rns_length] at h1
  have hin : ∀ l, inD (rnO (swp a b) O) l = inD O (swp a b l) := fun l => by simp only [inD, ok_rnO hπ, Option.isSome_map]
  refine (h { c with ρ0 := fun l => c.ρ0 (swp a b l), L := fun l => c.L (swp a b l) } w vs _ S h0 (fun l => by rw [hL, hin, hπ]) hS hD h1).mono ?_
  rintro e w' ⟨v, r, O', rfl, hP, ρ', S', h'⟩
  have h2 := Conc.rn hπ h'
  simp only [hπ] at h2
  refine ⟨v, r.rn (swp a b), rnO (swp a b) O', rfl, by dsimp only; rw [rn_rn hπ, rnO_rnO hπ]; exact hP, _, S', h2⟩
theorem qan {T : List (Nat × AV)} {t : Nat} {v v' : AV} (h : lk T t = some v) (e : v = v') : lk T t = some v' := by rw [h, e]
theorem qR {T : List (Nat × Ob)} {t : Nat} {v v' : Ob} (h : ok T t = some v) (e : v = v') : ok T t = some v' := by rw [h, e]
theorem noL {c : Ctx} (h : ∀ l, c.L l ↔ inD [] l = true) : ∀ l, ¬ c.L l := fun l hl => by have := (h l).1 hl; simp [inD, ok] at this
theorem noL' {c : Ctx} (h : ∀ l, ¬ c.L l) (O : List (Nat × Ob)) : ∀ l, c.L l → inD O l = true := fun l hl => absurd hl (h l)
theorem oneL {c : Ctx} {l0 : Nat} {ob : Ob} (h : ∀ l, c.L l ↔ inD [(l0, ob)] l = true) {O : List (Nat × Ob)} (h0 : inD O l0 = true) : ∀ l, c.L l → inD O l = true := fun l hl => by
  have := (h l).1 hl
  simp only [inD, qa3] at this
  split at this
  · rename_i e; rw [← e]; exact h0
  · simp [ok] at this
theorem oneL' {c : Ctx} {l0 : Nat} {ob : Ob} (h : ∀ l, c.L l ↔ inD [(l0, ob)] l = true) {m : Nat} (h0 : Nat.beq l0 m = false) : ¬ c.L m := fun hl => by
  have := (h m).1 hl
  simp only [inD, qa3] at this
  split at this
  · rename_i e; subst e; simp at h0
  · simp [ok] at this
section
variable {P : Program} {c : Ctx} {N : Nat} {Q : Exit → St → Prop} {σ : St} {o : Oper}
theorem qt {ops : Array Oper} {rest : List Oper} {T : List (Nat × AV)} {O : List (Nat × Ob)} (t : Nat) {b : Bool} (h : lk T t = some (.imm (.bool b))) (ht : b = true → awps P c N ops rest Q ⟨(t, .imm (.bool true)) :: T, O⟩) (hf : b = false → awps P c N ops rest Q ⟨(t, .imm (.bool false)) :: T, O⟩) : awps P c N ops rest Q ⟨T, O⟩ := by
  have key : ∀ b', b = b' → Sub c N ⟨T, O⟩ ⟨(t, .imm (.bool b')) :: T, O⟩ := fun b' e => by
    subst e
    refine sub_lookups (fun s => ?_) (fun _ => rfl)
    simp only [qcd]
    split
    · rename_i e; rw [← e, h]
    · rfl
  cases hb : b with
  | true => exact qaB (key true hb) (ht hb)
  | false => exact qaB (key false hb) (hf hb)
theorem awps_g0 {ops : Array Oper} {rest : List Oper} {T : List (Nat × AV)} {O : List (Nat × Ob)} {need : List Nat} {v : AV} {d j t : Nat} {b : Bool} (hg : o.guard = some (j, b)) (hj : (ops[j]?).bind (·.dst) = some t) (ht : lk T t = some (.imm (.bool b))) (htN : t < N) (hd : o.dst = some d) (hN : d < N)
    (h : Stp P c N o ⟨T, O⟩ need v []) (K : awps P c N ops rest Q ⟨(d, v) :: T, O⟩) : awps P c N ops (o :: rest) Q ⟨T, O⟩ := by
  refine awps_want hg hj ht htN fun a w hc => Oper.wp_mono ?_ (h (by intro e he; rw [hd] at he; cases he; exact hN) ⟨T, O⟩ (fun _ _ _ h => h) (fun _ _ _ h => h) (by simp) a w hc)
  rintro a w ⟨σ2, h2, rfl⟩
  refine ⟨_, h2, ?_⟩
  simpa [St.add, hd] using K
theorem awps_gs {ops : Array Oper} {rest : List Oper} {T : List (Nat × AV)} {O : List (Nat × Ob)} {d j t : Nat} {b b' : Bool} (hg : o.guard = some (j, b)) (hj : (ops[j]?).bind (·.dst) = some t) (ht : lk T t = some (.imm (.bool b'))) (hb : (b' == b) = false) (htN : t < N) (hd : o.dst = some d) (hN : d < N)
    (K : awps P c N ops rest Q ⟨(d, .imm undef) :: T, O⟩) : awps P c N ops (o :: rest) Q ⟨T, O⟩ := by
  refine awps_skip hg hj ht (by simpa using hb) (by intro e he; rw [hd] at he; cases he; exact hN) htN ?_
  simpa [St.put, hd] using K
theorem qaE {ops : Array Oper} {rest : List Oper} {T : List (Nat × AV)} {O : List (Nat × Ob)} {d j t : Nat} {b : Bool} (hg : o.guard = some (j, b)) (hj : (ops[j]?).bind (·.dst) = some t) (ht : lk T t = some (.imm undef)) (htN : t < N) (hd : o.dst = some d) (hN : d < N)
    (K : awps P c N ops rest Q ⟨(d, .imm undef) :: T, O⟩) : awps P c N ops (o :: rest) Q ⟨T, O⟩ := by
  refine awps_skipu hg hj ht (by intro e he; rw [hd] at he; cases he; exact hN) htN ?_
  simpa [St.put, hd] using K
theorem qae {ops : Array Oper} {rest : List Oper} {x y : Operand} {t : TypeId} {b : Bool} {n l off : Nat} {ob ob' : Ob} {v : AV} {vs : List AV} {T : List (Nat × AV)} {O : List (Nat × Ob)} (hg : o.guard = none) (ho : o.op = .store t x y) (hd : o.dst = none) (ht : tfB P t b n = true) (hx : ev T x = some (.ptr l off)) (hl : ok O l = some ob)
    (hy : ev T y = some v) (hv : v.cellsOf = some vs) (hn : vs.length = n) (hoff : Nat.ble (off + n) ob.cells.length = true) (h0 : Nat.ble 1 n = true) (hob : (match ob with | .rowd _ _ _ _ => false | _ => true) = true) (hw : ob.with (qaz ob.cells off vs) = ob')
    (K : awps P c N ops rest Q ⟨T, (l, ob') :: O⟩) : awps P c N ops (o :: rest) Q ⟨T, O⟩ := by
  subst hw
  refine qdx hg fun a w hc => Oper.wp_mono ?_ (aop_store ho hd ht hx hl hy hv hn (Nat.le_of_ble_eq_true hoff) (Nat.le_of_ble_eq_true h0) (by rintro e k f es rfl; cases hob) a w hc)
  rintro a w ⟨σ2, h2, rfl⟩
  exact ⟨_, h2, K⟩
theorem ql {x : Operand} {t : TypeId} {l off n : Nat} {b : Bool} {ob : Ob} {v : AV} (ho : o.op = .load t x) (ht : tfB P t b n = true) (hx : ev σ.T x = some (.ptr l off)) (hl : ok σ.O l = some ob)
    (hn : Nat.ble (off + n) ob.cells.length = true) (h0 : Nat.ble 1 n = true) (hv : mkA b n ((ob.cells.drop off).take n) = some v) : Stp P c N o σ [l] v [] :=
  stp_load_box ho ht hx hl (Nat.le_of_ble_eq_true hn) (Nat.le_of_ble_eq_true h0) hv
theorem qK {x : Operand} {t : TypeId} {l n : Nat} {cs : List AV} (ho : o.op = .load t x) (ht : tfB P t true n = true) (hx : ev σ.T x = some (.ptr l 0)) (hl : ok σ.O l = some (.box cs)) (hn : cs.length = n) (h0 : Nat.ble 1 n = true) : Stp P c N o σ [l] (.agg cs) [] :=
  stp_load_box ho ht hx hl (by simp [Ob.cells]; omega) (Nat.le_of_ble_eq_true h0) (by simp only [Ob.cells, List.drop_zero, mkA, if_true]; rw [List.take_of_length_le (by omega), if_pos hn])
theorem qC {x : Operand} {t : TypeId} {n : Nat} {f : Bool} {ds : List D} (ho : o.op = .load t x) (ht : tfB P t true n = true) (hx : ev σ.T x = some (.elp f ds)) (hn : ds.length = n) : Stp P c N o σ [] (.agg (lift f ds)) [] :=
  stp_load_elp ho ht hx (by omega) (by simp only [mkA, if_true]; rw [List.take_of_length_le (by omega), if_pos (by simp [lift, hn])])
theorem qN {x : Operand} {t : TypeId} {f : Bool} {d : D} {ds : List D} (ho : o.op = .load t x) (ht : tfB P t false 1 = true) (hx : ev σ.T x = some (.elp f (d :: ds))) : Stp P c N o σ [] (d.av f) [] :=
  stp_load_elp ho ht hx (by simp) (by simp [mkA, lift])
theorem stp_load_elpn {x : Operand} {t : TypeId} {n : Nat} {b f : Bool} {ds : List D} {v : AV} (ho : o.op = .load t x) (ht : tfB P t b n = true) (hx : ev σ.T x = some (.elp f ds)) (hn : Nat.ble n ds.length = true) (hv : mkA b n (lift f (ds.take n)) = some v) : Stp P c N o σ [] v [] :=
  stp_load_elp ho ht hx (Nat.le_of_ble_eq_true hn) hv
theorem qE {m : Bool} [DOk m c] {ops : Array Oper} {rest : List Oper} {x : Operand} {xs : List Operand} {tys : Array TypeId} {g : FuncId} {caps avs args : List AV} {T : List (Nat × AV)} {O : List (Nat × Ob)} {v : AV} {d : Nat} (B : Bool) (hg : o.guard = none)
    (ho : o.op = .call { callee := .value x, args := xs.toArray, argTypes := tys }) (hd : o.dst = some d) (hN : d < N) (hen : qW P g)
    (hx : ev T x = some (.fn g caps)) (hxs : xs.map (ev T) = avs.map some) (hAC : ACx m P g args [] (fun r O' => r = v ∧ O' = [])) (hcv : AV.cvs B O (inD []) (avs ++ caps) = args) (hq : (!B || v.allQ (fun f => f)) = true)
    (K : awps P c N ops rest Q ⟨(d, v) :: T, O⟩) : awps P c N ops (o :: rest) Q ⟨T, O⟩ := by
  refine qdx hg (call_core B ho (by intro e he; rw [hd] at he; cases he; exact hN) hen hx hxs hcv PassO.nil hAC ?_ ?_ ?_)
  · rintro r O' ⟨_, rfl⟩ l hl; simp [inD, ok] at hl
  · rintro rfl r O' ⟨rfl, rfl⟩; exact ⟨by simpa using hq, rfl⟩
  · rintro r O' ⟨rfl, rfl⟩; simpa [St.put, hd] using K
theorem qY {m : Bool} [DOk m c] {x : Operand} {xs : List Operand} {tys : Array TypeId} {g : FuncId} {caps avs args : List AV} {T : List (Nat × AV)} {O : List (Nat × Ob)} {v : AV} (B : Bool) 
    (ho : o.op = .call { callee := .value x, args := xs.toArray, argTypes := tys }) (hen : qW P g)
    (hx : ev T x = some (.fn g caps)) (hxs : xs.map (ev T) = avs.map some) (hAC : ACx m P g args [] (fun r O' => r = v ∧ O' = [])) (hcv : ∀ O', AV.cvs B O' (inD []) (avs ++ caps) = args) (hq : (!B || v.allQ (fun f => f)) = true) : Stp P c N o ⟨T, O⟩ [] v [] := by
  rintro hdN σ' h1 h2 _
  have hxs' : xs.map (ev σ'.T) = avs.map some := by
    rw [← hxs]
    refine List.map_congr_left fun y hy => ?_
    have : ∀ u, ev T y = some u → ev σ'.T y = some u := h1 y (by simp [ho, Op.operands, Call.operands, hy])
    have hsome : ∃ u, ev T y = some u := by
      have : ev T y ∈ avs.map some := by rw [← hxs]; exact List.mem_map.2 ⟨y, hy, rfl⟩
      obtain ⟨u, _, hu⟩ := List.mem_map.1 this
      exact ⟨u, hu.symm⟩
    obtain ⟨u, hu⟩ := hsome
    rw [hu, this u hu]
  have hx' : ev σ'.T x = some (.fn g caps) := h1 x (by simp [ho, Op.operands, Call.operands]) _ hx
  refine call_core (T := σ'.T) (O := σ'.O) B ho hdN hen hx' hxs' (hcv σ'.O) PassO.nil hAC ?_ ?_ ?_
  · rintro r O' ⟨_, rfl⟩ l hl; simp [inD, ok] at hl
  · rintro rfl r O' ⟨rfl, rfl⟩; exact ⟨by simpa using hq, rfl⟩
  · rintro r O' ⟨rfl, rfl⟩; cases o.dst <;> rfl
theorem qaj {m : Bool} [DOk m c] {ops : Array Oper} {rest : List Oper} {x : Operand} {xs : List Operand} {tys : Array TypeId} {g : FuncId} {caps avs args : List AV} {T : List (Nat × AV)} {O Oin : List (Nat × Ob)} {Post : AV → List (Nat × Ob) → Prop} {d : Nat} (B : Bool) (hg : o.guard = none)
    (ho : o.op = .call { callee := .value x, args := xs.toArray, argTypes := tys }) (hd : o.dst = some d) (hN : d < N) (hen : qW P g)
    (hx : ev T x = some (.fn g caps)) (hxs : xs.map (ev T) = avs.map some) (hAC : ACx m P g args Oin Post) (hcv : AV.cvs B O (inD Oin) (avs ++ caps) = args) (hOin : PassO B O Oin)
    (hfr : ∀ r O', Post r O' → ∀ l, inD O' l = true → inD Oin l = true ∨ inD O l = false)
    (hq : B = true → ∀ r O', Post r O' → r.allQ (fun f => f) = true ∧ allOQ (fun f => f) O' = true)
    (K : ∀ r O', Post r O' → awps P c N ops rest Q ⟨(d, r) :: T, O' ++ O⟩) : awps P c N ops (o :: rest) Q ⟨T, O⟩ := by
  refine qdx hg (call_core B ho (by intro e he; rw [hd] at he; cases he; exact hN) hen hx hxs hcv hOin hAC hfr hq ?_)
  intro r O' hP; simpa [St.put, hd] using K r O' hP
theorem qh {rs : List ResultVar} {vs : List AV} {t : Nat} {v : AV} (h : lk σ.T t = some v) (r : resAs P σ rs = some vs) : resAs P σ (.tmp t :: rs) = some (v :: vs) := by
  simp [resAs, resA, resT, h, r]
theorem qbb {rs : List ResultVar} {vs : List AV} {a l : Nat} {ty : TypeId} {u w : AV} {cs : List AV} {n : Nat} (ht : tfB P ty true n = true) (h : lk σ.T a = some (.ptr l 0)) (hl : ok σ.O l = some (.box (u :: w :: cs))) (hn : (u :: w :: cs).length = n) (r : resAs P σ rs = some vs) : resAs P σ (.cell a ty :: rs) = some (.agg (u :: w :: cs) :: vs) := by
  subst hn
  have : ((u :: w :: cs).length == 1) = false := by simp
  have ht' : tfB P ty true (cs.length + 1 + 1) = true := by simpa using ht
  simp [resAs, resA, resT, h, hl, r, ht']
theorem qi : resAs P σ [] = some [] := rfl
theorem ret0 {rs : List ResultVar} {Post : AV → List (Nat × Ob) → Prop} {vs : List AV} {e : Exit} (hL : ∀ l, ¬ c.L l) (he : e = .ret ∨ e = .normal) (hr : resAs P σ rs = some vs) (hv : AV.allLs (inD []) vs = true) (hP : Post (resV vs) []) : retQ P c N rs Post e σ :=
  ⟨he, σ, vs, [], fun _ _ h => h, hr, SubO.nil, hv, rfl, fun l hl => absurd hl (hL l), hP⟩
theorem retS {rs : List ResultVar} {Post : AV → List (Nat × Ob) → Prop} {e : Exit} {σ' : St} (hs : Sub c N σ σ') (h : retQ P c N rs Post e σ') : retQ P c N rs Post e σ := by
  obtain ⟨he, σ2, vs, O', h1, h2⟩ := h
  exact ⟨he, σ2, vs, O', fun a w hc => h1 a w (hs a w hc), h2⟩
theorem retO {rs : List ResultVar} {Post : AV → List (Nat × Ob) → Prop} {vs : List AV} {O' : List (Nat × Ob)} {e : Exit} (he : e = .ret ∨ e = .normal) (hr : resAs P σ rs = some vs) (hO : SubO O' σ.O) (hv : AV.allLs (inD O') vs = true) (hOO : allO (inD O') O' = true) (hL : ∀ l, c.L l → inD O' l = true) (hP : Post (resV vs) O') : retQ P c N rs Post e σ :=
  ⟨he, σ, vs, O', fun _ _ h => h, hr, hO, hv, hOO, hL, hP⟩
theorem Sub.rfl' : Sub c N σ σ := fun _ _ h => h
theorem Sub.trans {σ1 σ2 σ3 : St} (h : Sub c N σ1 σ2) (k : Sub c N σ2 σ3) : Sub c N σ1 σ3 := fun a w hc => k a w (h a w hc)
theorem AC_mono {m : Bool} {f : FuncId} {args : List AV} {O : List (Nat × Ob)} {Post Post' : AV → List (Nat × Ob) → Prop} (h : ACx m P f args O Post) (k : ∀ r O', Post r O' → Post' r O') : ACx m P f args O Post' :=
  fun c w vs ρ S h0 h1 h2 hD h3 => (h c w vs ρ S h0 h1 h2 hD h3).mono fun e w' ⟨v, r, O', he, hP, hC⟩ => ⟨v, r, O', he, k r O' hP, hC⟩
end
end Go.Proofs.YtpgceiijoedppaaGreat

namespace Go.Proofs.YtpgceiijoedppaaGreat
open Go
theorem toList_inj {a b : ByteArray} : a.toList = b.toList ↔ a = b := by
  constructor
  · intro h
    cases a with | mk a => cases b with | mk b =>
    simp only [Go.ByteArray.toList_eq] at h
    congr 1
    exact Array.toList_inj.1 h
  · rintro rfl; rfl
theorem str_beq_t {a b : ByteArray} : ((a.toList == b.toList) = true) ↔ a = b := by rw [beq_iff_eq, toList_inj]
theorem str_beq_f {a b : ByteArray} : ((a.toList == b.toList) = false) ↔ ¬ a = b := by rw [beq_eq_false_iff_ne, ne_eq, toList_inj]
theorem cqA : (∀ {a b : ByteArray}, ((a.toList == b.toList) = true) ↔ a = b) ∧ (∀ {a b : ByteArray}, ((a.toList == b.toList) = false) ↔ ¬ a = b) := ⟨str_beq_t, str_beq_f⟩
theorem cqB : (∀ (p : Prop) [Decidable p], (decide p = true) = p) ∧ (∀ (p : Prop) [Decidable p], (decide p = false) ↔ ¬ p) ∧ (∀ b : Bool, ((!b) = true) = (b = false)) ∧ (∀ b : Bool, ((!b) = false) = (b = true)) ∧ (∀ {a b : Int}, (¬ a < b) ↔ (b ≤ a)) ∧ (∀ {a b : Int}, (¬ a ≤ b) ↔ (b < a)) ∧ (∀ {α : Type} [BEq α] [LawfulBEq α] {a b : α}, ((a == b) = true) ↔ a = b) ∧ (∀ {α : Type} [BEq α] [LawfulBEq α] {a b : α}, ((a == b) = false) ↔ a ≠ b) ∧ (∀ {α : Type} [BEq α] [LawfulBEq α] {a b : α}, ((a != b) = true) ↔ a ≠ b) ∧ (∀ {α : Type} [BEq α] [LawfulBEq α] {a b : α}, ((a != b) = false) ↔ a = b) ∧ (∀ {α : Type} (a b : α), (a ≠ b) = ¬ (a = b)) := ⟨fun _ => decide_eq_true_eq, fun _ => decide_eq_false_iff_not, Bool.not_eq_true', Bool.not_eq_false', Int.not_lt, Int.not_le, beq_iff_eq, beq_eq_false_iff_ne, bne_iff_ne, bne_eq_false_iff_eq, fun _ _ => rfl⟩
theorem size_zero {s : ByteArray} : s.size = 0 ↔ s = ⟨#[]⟩ := by
  cases s with | mk s =>
  simp only [ByteArray.size]
  constructor
  · intro h; congr 1; exact Array.eq_empty_of_size_eq_zero h
  · rintro ⟨⟩; rfl
section
variable {P : Program} {c : Ctx} {N : Nat} {Q : Exit → St → Prop} {σ : St} {o : Oper}
theorem hdS {d : Nat} (h : o.dst = some d) (k : d < N) : ∀ e, o.dst = some e → e < N := fun e he => by rw [h] at he; cases he; exact k
theorem hdN (h : o.dst = none) : ∀ e, o.dst = some e → e < N := fun e he => by rw [h] at he; cases he
def newB (O : List (Nat × Ob)) (ms : List MS) : Bool := ms.all fun m => m.new.all fun p => m.old.contains p.1 || (ok O p.1).isNone
theorem newB_spec {O : List (Nat × Ob)} {ms : List MS} (h : newB O ms = true) : ∀ m ∈ ms, ∀ p ∈ m.new, p.1 ∉ m.old → ok O p.1 = none := fun m hm p hp ho => by
  have := List.all_eq_true.1 (List.all_eq_true.1 h m hm) p hp
  simp only [Bool.or_eq_true, List.contains_iff_mem] at this
  rcases this with h | h
  · exact absurd h ho
  · simpa using h
inductive MRunN (P : Program) (c : Ctx) (N : Nat) (ops : Array Oper) : Nat → List Oper → St → List MS → St → Prop where
  | nil {l : List Oper} {σ : St} : MRunN P c N ops 0 l σ [] σ
  | cons {n : Nat} {o : Oper} {os : List Oper} {σ σ' : St} {m : MS} {ms : List MS} (hd : ∀ d, o.dst = some d → d < N) (h : MStep P c N ops o σ m) (r : MRunN P c N ops n os (σ.add o.dst m.v m.new) ms σ') : MRunN P c N ops (n + 1) (o :: os) σ (m :: ms) σ'
theorem MRunN.run {ops : Array Oper} : ∀ {n : Nat} {l : List Oper} {σ σ' : St} {ms : List MS}, MRunN P c N ops n l σ ms σ' → MRun P c N ops (l.take n) σ ms σ'
  | _, _, _, _, _, .nil => by simpa using MRun.nil
  | _, _, _, _, _, .cons hd h r => by rw [List.take_succ_cons]; exact MRun.cons hd h r.run
theorem awp_drawB (n : Nat) {id : Nat} {l : List Oper} {ms : List MS} {σ' : St} (hm : P.follows .mixedOrders = true) (hn : Nat.ble n l.length = true) (hC : chkO l.toArray n = true) (hE : chkE l.toArray = true) (hS : chkS l.toArray n = true)
    (hr : MRunN P c N l.toArray n l σ ms σ') (hN : chkN l.toArray ms = true) (hnew : newB σ.O ms = true) (K : awps P c N l.toArray (l.drop n) Q σ') : awp P c N (.region id l.toArray true) Q σ :=
  awp_drawn n hm hn hC hE hS hr.run hN (newB_spec hnew) K
def MGo (P : Program) (c : Ctx) (N : Nat) (ops : Array Oper) (n : Nat) (l : List Oper) (σ : St) (Φ : List MS → St → Prop) : Prop := ∃ ms σ', MRunN P c N ops n l σ ms σ' ∧ Φ ms σ'
theorem qak {ops : Array Oper} {l : List Oper} {Φ : List MS → St → Prop} (h : Φ [] σ) : MGo P c N ops 0 l σ Φ := ⟨_, _, .nil, h⟩
theorem qf {ops : Array Oper} {n d : Nat} {os : List Oper} {Φ : List MS → St → Prop} {T : List (Nat × AV)} {O : List (Nat × Ob)} {need : List Nat} {v : AV} (hd : o.dst = some d) (hN : d < N) (h : MStep P c N ops o ⟨T, O⟩ ⟨need, v, [], []⟩)
    (K : MGo P c N ops n os ⟨(d, v) :: T, O⟩ (fun ms σ' => Φ (⟨need, v, [], []⟩ :: ms) σ')) : MGo P c N ops (n + 1) (o :: os) ⟨T, O⟩ Φ := by
  obtain ⟨ms, σ', hr, hΦ⟩ := K
  exact ⟨_, _, .cons (hdS hd hN) h (by simpa [St.add, hd] using hr), hΦ⟩
theorem MGo_c1 {ops : Array Oper} {n d l : Nat} {os : List Oper} {Φ : List MS → St → Prop} {T : List (Nat × AV)} {O : List (Nat × Ob)} {need : List Nat} {v : AV} {ob : Ob} (hd : o.dst = some d) (hN : d < N) (h : MStep P c N ops o ⟨T, O⟩ ⟨need, v, [(l, ob)], []⟩)
    (K : MGo P c N ops n os ⟨(d, v) :: T, (l, ob) :: O⟩ (fun ms σ' => Φ (⟨need, v, [(l, ob)], []⟩ :: ms) σ')) : MGo P c N ops (n + 1) (o :: os) ⟨T, O⟩ Φ := by
  obtain ⟨ms, σ', hr, hΦ⟩ := K
  exact ⟨_, _, .cons (hdS hd hN) h (by simpa [St.add, hd] using hr), hΦ⟩
theorem stpU_store {x y : Operand} {t : TypeId} {b : Bool} {k l off : Nat} {ob ob' : Ob} {v : AV} {vs : List AV} (ho : o.op = .store t x y) (hd : o.dst = none) (ht : tfB P t b k = true) (hx : ev σ.T x = some (.ptr l off)) (hl : ok σ.O l = some ob)
    (hy : ev σ.T y = some v) (hv : v.cellsOf = some vs) (hn : vs.length = k) (hoff : Nat.ble (off + k) ob.cells.length = true) (h0 : Nat.ble 1 k = true) (hob : (match ob with | .rowd _ _ _ _ => false | _ => true) = true) (hw : ob.with (qaz ob.cells off vs) = ob') : StpU P c N o σ [l] .any [(l, ob')] [l] := by
  subst hw
  intro _ σ1 h1 h2 _
  have := aop_store (P := P) (c := c) (N := N) ho hd ht (h1 x (by simp [ho, Op.operands]) _ hx) (h2 l (by simp) _ hl) (h1 y (by simp [ho, Op.operands]) _ hy) hv hn (Nat.le_of_ble_eq_true hoff) (Nat.le_of_ble_eq_true h0) (by rintro e k f es rfl; cases hob)
  intro a w hc
  refine Oper.wp_mono ?_ (this a w hc)
  rintro a w ⟨σ2, h3, rfl⟩
  exact ⟨_, h3, by simp [St.add, hd]⟩
theorem MGo_u {ops : Array Oper} {n d : Nat} {os : List Oper} {Φ : List MS → St → Prop} {T : List (Nat × AV)} {O : List (Nat × Ob)} {need : List Nat} {v : AV} {new : List (Nat × Ob)} {old : List Nat} (hg : o.guard = none) (hd : o.dst = some d) (hN : d < N) (h : StpU P c N o ⟨T, O⟩ need v new old)
    (K : MGo P c N ops n os ⟨(d, v) :: T, new ++ O⟩ (fun ms σ' => Φ (⟨need, v, new, old⟩ :: ms) σ')) : MGo P c N ops (n + 1) (o :: os) ⟨T, O⟩ Φ := by
  obtain ⟨ms, σ', hr, hΦ⟩ := K
  exact ⟨_, _, .cons (hdS hd hN) (.upd hg h) (by simpa [St.add, hd] using hr), hΦ⟩
theorem MGo_un {ops : Array Oper} {n : Nat} {os : List Oper} {Φ : List MS → St → Prop} {T : List (Nat × AV)} {O : List (Nat × Ob)} {need : List Nat} {v : AV} {new : List (Nat × Ob)} {old : List Nat} (hg : o.guard = none) (hd : o.dst = none) (h : StpU P c N o ⟨T, O⟩ need v new old)
    (K : MGo P c N ops n os ⟨T, new ++ O⟩ (fun ms σ' => Φ (⟨need, v, new, old⟩ :: ms) σ')) : MGo P c N ops (n + 1) (o :: os) ⟨T, O⟩ Φ := by
  obtain ⟨ms, σ', hr, hΦ⟩ := K
  exact ⟨_, _, .cons (hdN hd) (.upd hg h) (by simpa [St.add, hd] using hr), hΦ⟩
def newU (O : List (Nat × Ob)) (new : List (Nat × Ob)) (old : List Nat) : Bool := new.all fun p => old.contains p.1 || (ok O p.1).isNone
theorem newU_spec {O : List (Nat × Ob)} {new : List (Nat × Ob)} {old : List Nat} (h : newU O new old = true) : ∀ p ∈ new, p.1 ∉ old → ok O p.1 = none := fun p hp ho => by
  have := List.all_eq_true.1 h p hp
  simp only [Bool.or_eq_true, List.contains_iff_mem] at this
  rcases this with h | h
  · exact absurd h ho
  · simpa using h
theorem qc1 {ops : Array Oper} {rest : List Oper} {T : List (Nat × AV)} {O : List (Nat × Ob)} {need : List Nat} {v : AV} {d : Nat} {new : List (Nat × Ob)} {old : List Nat} (hg : o.guard = none) (hd : o.dst = some d) (hN : d < N)
    (h : StpU P c N o ⟨T, O⟩ need v new old) (hnew : newU O new old = true) (K : awps P c N ops rest Q ⟨(d, v) :: T, new ++ O⟩) : awps P c N ops (o :: rest) Q ⟨T, O⟩ := by
  refine qdx hg fun a w hc => Oper.wp_mono ?_ (h (hdS hd hN) ⟨T, O⟩ (fun _ _ _ h => h) (fun _ _ _ h => h) (newU_spec hnew) a w hc)
  rintro a w ⟨σ2, h2, rfl⟩
  refine ⟨_, h2, ?_⟩
  simpa [St.add, hd] using K
theorem qZ (n : Nat) {id : Nat} {l : List Oper} (hm : P.follows .mixedOrders = true) (hn : Nat.ble n l.length = true) (hC : chkO l.toArray n = true) (hE : chkE l.toArray = true) (hS : chkS l.toArray n = true)
    (h : MGo P c N l.toArray n l σ (fun ms σ' => chkN l.toArray ms = true ∧ newB σ.O ms = true ∧ awps P c N l.toArray (l.drop n) Q σ')) : awp P c N (.region id l.toArray true) Q σ := by
  obtain ⟨ms, σ', hr, h1, h2, h3⟩ := h
  exact awp_drawB n hm hn hC hE hS hr h1 h2 h3
theorem qm {K : St → Prop} (h : Q .ret σ) : thenQ K Q .ret σ := h
theorem qn {K : St → Prop} {i : Nat} (h : Q (.exit i) σ) : thenQ K Q (.exit i) σ := h
theorem qa {K : St → Prop} (h : K σ) : thenQ K Q .normal σ := h
theorem qS {i : Nat} (h : Q .ret σ) : inQ i Q .ret σ := h
theorem qP {i : Nat} (h : Q .normal σ) : inQ i Q .normal σ := h
theorem qX {i : Nat} (h : Q .normal σ) : inQ i Q (.exit i) σ := by simpa [inQ] using h
theorem SubO.left {A B : List (Nat × Ob)} : SubO A (A ++ B) := fun l v h => by rw [ok_append, h]
theorem SubO.trans {A B D : List (Nat × Ob)} (h : SubO A B) (k : SubO B D) : SubO A D := fun l v e => k l v (h l v e)
theorem qdr : ∀ {A B : List (Nat × Ob)} (_ : A.map (·.1) = B.map (·.1)) (l : Nat), inD A l = inD B l
  | [], [], _, l => rfl
  | [], b :: B, h, l => by simp at h
  | a :: A, [], h, l => by simp at h
  | a :: A, b :: B, h, l => by
    obtain ⟨s, v⟩ := a; obtain ⟨s', v'⟩ := b
    simp only [List.map_cons, List.cons.injEq] at h
    have ih := qdr h.2 l
    simp only [inD, qa3] at ih ⊢
    rw [h.1]
    split
    · rfl
    · exact ih
theorem LO {O O' : List (Nat × Ob)} (hL : ∀ l, c.L l ↔ inD O l = true) (h : O'.map (·.1) = O.map (·.1)) : ∀ l, c.L l → inD O' l = true := fun l hl => by rw [qdr h]; exact (hL l).1 hl
inductive PassP (B : Bool) (O : List (Nat × Ob)) (p : Nat → Bool) : List (Nat × Ob) → Prop where
  | nil : PassP B O p []
  | cons {t : Nat} {ob ob' : Ob} {L : List (Nat × Ob)} (h : ok O t = some ob) (hv : ob.live) (e : ob' = ob.cv B O p) (r : PassP B O p L) : PassP B O p ((t, ob') :: L)
theorem PassP.get {B : Bool} {O : List (Nat × Ob)} {p : Nat → Bool} : ∀ {L : List (Nat × Ob)}, PassP B O p L → ∀ {l : Nat} {ob' : Ob}, ok L l = some ob' → ∃ ob, ok O l = some ob ∧ ob.live ∧ ob' = ob.cv B O p
  | [], _, l, ob', h => by simp [ok] at h
  | _ :: _, .cons (t := t) h hv e r, l, ob', hl => by
    rw [qa3] at hl
    split at hl
    · rename_i hh; cases hl; subst hh; exact ⟨_, h, hv, e⟩
    · exact r.get hl
theorem qbX {B : Bool} {O Oin : List (Nat × Ob)} (h : PassP B O (inD Oin) Oin) : PassO B O Oin := fun _ _ hl => h.get hl
theorem awps_gcallP {m : Bool} [DOk m c] {ops : Array Oper} {rest : List Oper} {x : Operand} {xs : List Operand} {tys : Array TypeId} {g : FuncId} {caps avs args : List AV} {T : List (Nat × AV)} {O Oin : List (Nat × Ob)} {Post : AV → List (Nat × Ob) → Prop} {d j t : Nat} {b : Bool} (B : Bool) (hg : o.guard = some (j, b)) (hj : (ops[j]?).bind (·.dst) = some t) (ht : lk T t = some (.imm (.bool b))) (htN : t < N)
    (ho : o.op = .call { callee := .value x, args := xs.toArray, argTypes := tys }) (hd : o.dst = some d) (hN : d < N) (hen : qW P g)
    (hx : ev T x = some (.fn g caps)) (hxs : xs.map (ev T) = avs.map some) (hAC : ACx m P g args Oin Post) (hcv : AV.cvs B O (inD Oin) (avs ++ caps) = args) (hOin : PassO B O Oin)
    (hfr : ∀ r O', Post r O' → ∀ l, inD O' l = true → inD Oin l = true ∨ inD O l = false)
    (hq : B = true → ∀ r O', Post r O' → r.allQ (fun f => f) = true ∧ allOQ (fun f => f) O' = true)
    (K : ∀ r O', Post r O' → awps P c N ops rest Q ⟨(d, r) :: T, O' ++ O⟩) : awps P c N ops (o :: rest) Q ⟨T, O⟩ := by
  refine awps_want hg hj ht htN (call_core B ho (by intro e he; rw [hd] at he; cases he; exact hN) hen hx hxs hcv hOin hAC hfr hq ?_)
  intro r O' hP; simpa [St.put, hd] using K r O' hP
theorem inD_mem : ∀ {A : List (Nat × Ob)} {l : Nat}, inD A l = true → ∃ p, p ∈ A ∧ p.1 = l
  | [], l, h => by simp [inD, ok] at h
  | (s, v) :: A, l, h => by
    simp only [inD, qa3] at h
    split at h
    · rename_i e; exact ⟨_, List.mem_cons_self, e⟩
    · obtain ⟨p, hp, e⟩ := inD_mem (A := A) (l := l) h
      exact ⟨p, List.mem_cons_of_mem _ hp, e⟩
theorem frB {A Oin O : List (Nat × Ob)} (h : (A.all fun p => inD Oin p.1 || !inD O p.1) = true) : ∀ l, inD A l = true → inD Oin l = true ∨ inD O l = false := fun l hl => by
  obtain ⟨p, hp, rfl⟩ := inD_mem hl
  have := List.all_eq_true.1 h p hp
  simpa using this
theorem natBeq0 (n : Nat) : (((n : Int) == 0) : Bool) = decide (n = 0) := by
  rw [Bool.eq_iff_iff]; simp
theorem AC_rnE {m : Bool} {f : FuncId} {args : List AV} {O O1 : List (Nat × Ob)} {v : AV} (a b : Nat) (h : ACx m P f args O (fun r O' => r = v ∧ O' = O1)) : ACx m P f (AV.rns (swp a b) args) (rnO (swp a b) O) (fun r O' => r = v.rn (swp a b) ∧ O' = rnO (swp a b) O1) :=
  AC_mono (AC_rn a b h) fun r O' ⟨e1, e2⟩ => ⟨by rw [← e1, rn_rn (swp_swp a b)], by rw [← e2, rnO_rnO (swp_swp a b)]⟩
theorem qB {T T1 : List (Nat × AV)} {O O1 : List (Nat × Ob)} (h : SubT T1 T) (k : SubO O1 O) (hT : allT (inD O1) T1 = true) (hO : allO (inD O1) O1 = true) (hL : ∀ l, c.L l → inD O1 l = true) : Sub c N ⟨T, O⟩ ⟨T1, O1⟩ := sub_TO h k hT hO hL
theorem qb5 {b b' : Bool} (h : b = b') : AV.imm (.bool b) = AV.imm (.bool b') := by rw [h]
theorem qL {b b' : Int} (h : b = b') : AV.imm (.int .i64 b) = AV.imm (.int .i64 b') := by rw [h]
theorem qa2 {b b' : Int} (h : b = b') : resV [AV.imm (.int .i64 b)] = AV.imm (.int .i64 b') := by rw [h]; rfl
theorem qT {b b' : Bool} (h : b = b') : resV [AV.imm (.bool b)] = AV.imm (.bool b') := by rw [h]; rfl
end
end Go.Proofs.YtpgceiijoedppaaGreat

namespace Go.Proofs.YtpgceiijoedppaaGreat
open Go
def chunk (k : Nat) : Nat → List D → List (List D)
  | 0, _ => []
  | n + 1, ds => ds.take k :: chunk k n (ds.drop k)
theorem chunk_spec (k : Nat) : ∀ (n : Nat) (ds : List D), ds.length = n * k → (chunk k n ds).flatten = ds ∧ (chunk k n ds).length = n ∧ ∀ d ∈ chunk k n ds, d.length = k
  | 0, ds, h => by simp at h; subst h; simp [chunk]
  | n + 1, ds, h => by
    have hk : (n + 1) * k = n * k + k := Nat.succ_mul n k
    obtain ⟨h1, h2, h3⟩ := chunk_spec k n (ds.drop k) (by rw [List.length_drop]; omega)
    refine ⟨by simp [chunk, h1], by simp [chunk, h2], fun d hd => ?_⟩
    simp only [chunk, List.mem_cons] at hd
    rcases hd with rfl | hd
    · rw [List.length_take]; omega
    · exact h3 d hd
theorem Far.rfl' {W : Nat → Prop} {w : World} : Far W w w := Far.refl W w
section
variable {P : Program} {c : Ctx} {N : Nat} {Q : Exit → St → Prop} {σ : St} {o : Oper}
theorem sub_rowd {T : List (Nat × AV)} {O : List (Nat × Ob)} {l k : Nat} {e : TypeId} {cs : List AV} {ds : List D} (f : Bool) (n : Nat) (hl : ok O l = some (.row e k cs)) (hd : toDs f cs = some ds) (hk : Nat.ble 1 k = true) (hn : cs.length = n * k) : Sub c N ⟨T, O⟩ ⟨T, (l, .rowd e k f (chunk k n ds)) :: O⟩ := by
  rintro a w ⟨ρ, S, hc⟩
  have hk' := Nat.le_of_ble_eq_true hk
  obtain ⟨m, xs, how, h1, hr⟩ := hc.O l _ hl
  have e1 := toDs_lift hd
  have hdl : ds.length = n * k := by rw [← hn, e1]; simp [lift]
  obtain ⟨c1, c2, c3⟩ := chunk_spec k n ds hdl
  have hm : m = n := by
    have h2 := how.1
    rw [hr.length, hn] at h2
    exact (Nat.eq_of_mul_eq_mul_right (by omega) h2).symm
  subst hm
  refine ⟨ρ, S, hc.modOb hl trivial Far.rfl' ⟨c3, xs, by rw [c2]; exact how, h1, ?_⟩⟩
  rw [c1, ← e1]
  exact hr.mono (fun _ _ h => h) (fun _ _ _ => rfl) (fun m hm => by
    simp only [St.U, qa3] at hm ⊢
    split
    · rfl
    · exact hm) (fun _ _ => rfl)
theorem qdg {ops : Array Oper} {rest : List Oper} {T : List (Nat × AV)} {O : List (Nat × Ob)} {k : Nat} {e : TypeId} {cs : List AV} {ds : List D} (l : Nat) (f : Bool) (n : Nat) (hl : ok O l = some (.row e k cs)) (hd : toDs f cs = some ds) (hk : Nat.ble 1 k = true) (hn : cs.length = n * k)
    (K : awps P c N ops rest Q ⟨T, (l, .rowd e k f (chunk k n ds)) :: O⟩) : awps P c N ops rest Q ⟨T, O⟩ := qaB (sub_rowd f n hl hd hk hn) K
theorem stp_cmpstring {x y : Operand} {tys : Array TypeId} {g : FuncId} {fn : Func} {a b : ByteArray} (hf : P.funcs[g]? = some fn) (hn : (fn.name == "runtime.NumGoroutine") = false) (hb : fn.body.isNone = true) (hx : Extern.findNext fn = none) (he : Extern.find fn = some Extern.BytealgCompare.compare)
    (ho : o.op = .call { callee := .value (.func g), args := #[x, y], argTypes := tys }) (h1 : ev σ.T x = some (.imm (.string a))) (h2 : ev σ.T y = some (.imm (.string b))) : Stp P c N o σ [] (.imm (.int .i64 (Lib.compareBytes a.data.toList b.data.toList))) [] := by
  refine qaH fun σ' h3 _ st w ρ S hc => ⟨_, ?_, by simp only [Rep]; rfl⟩
  have hx' := qaF hc (h3 x (by simp [ho, Op.operands, Call.operands]) _ h1)
  have hy' := qaF hc (h3 y (by simp [ho, Op.operands, Call.operands]) _ h2)
  simp only [Rep] at hx' hy'
  simp only [execOp, ho, resolve]
  have e : st.eval (.func g) = .func (.func g) #[] #[] := rfl
  have := run_callFunc_extern hf hn hb hx he #[.string a, .string b] w
  rw [Lib.run_compareString] at this
  simp only [Result.andThen] at this
  simpa [Sem.run_bind, invoke, Deferred.ofValue, e, hx', hy'] using this
end
end Go.Proofs.YtpgceiijoedppaaGreat

namespace Go.Proofs.YtpgceiijoedppaaGreat
open Go Go.Maps Go.WideMaps Go.RowKit
section
variable {P : Program} {c : Ctx} {N : Nat} {Q : Exit → St → Prop} {σ : St} {o : Oper}
theorem stp_makeMap {t k : TypeId} (l : Nat) (ho : o.op = .makeMap t none) (K : Keyed P k) : Stp P c N o σ [] (.map l) [(l, .mp P k [])] := by
  rintro hd σ' _ _ hn
  refine aop_new (p0 := fun b => .map (some b)) hd (hn _ (List.mem_singleton.2 rfl)) fun a w ρ S hc => ?_; refine ⟨.map #[] 0, ?_, rfl, fun ρ' U' hρ hU hl hp => ⟨⟨w.heap.size, hp, 0, .map [], K, World.ownsMap_made w P k R1, Nat.le_refl _, fun l => ⟨fun h => (by cases h), fun _ z => rfl⟩⟩, ?_⟩⟩
  · simp only [execOp, ho, Option.map_none]
    simp [Sem.run_bind, run_makeMap]
  · simp only [Rep]
    exact ⟨hl, hp.symm, _, rfl⟩
def AV.immV : AV → Option Value
  | .imm v => some v
  | _ => none
def AV.val : AV → Option Value
  | .imm v => some v
  | .agg cs => (cs.mapM AV.immV).map fun vs => .agg vs.toArray
  | _ => none
theorem vals_rep {w : World} {ρ : Nat → Value} {S : Bool → Nat → Prop} {U : Nat → Prop} : ∀ {cs : List AV} {vs xs : List Value}, cs.mapM AV.immV = some vs → RepL w ρ S U cs xs → xs = vs
  | [], vs, xs, h, hr => by simp at h; simp only [RepL] at hr; rw [hr, h]
  | a :: cs, vs, xs, h, hr => by
    simp only [List.mapM_cons, Option.bind_eq_bind, Option.bind_eq_some_iff, Option.pure_def, Option.some.injEq] at h
    obtain ⟨v, hv, us, hus, rfl⟩ := h
    simp only [RepL] at hr
    obtain ⟨y, ys, rfl, h1, h2⟩ := hr
    have := vals_rep hus h2
    subst this
    cases a <;> simp only [AV.immV] at hv <;> try (cases hv; done)
    simp only [Option.some.injEq] at hv; subst hv; simp only [Rep] at h1; rw [h1]
theorem val_rep {w : World} {ρ : Nat → Value} {S : Bool → Nat → Prop} {U : Nat → Prop} {a : AV} {v x : Value} (h : a.val = some v) (hr : Rep w ρ S U a x) : x = v := by
  cases a with
  | imm u => simp only [AV.val, Option.some.injEq] at h; subst h; simpa [Rep] using hr
  | agg cs =>
    simp only [AV.val, Option.map_eq_some_iff] at h
    obtain ⟨vs, h1, rfl⟩ := h
    simp only [Rep] at hr
    obtain ⟨xs, rfl, _, h2⟩ := hr
    rw [vals_rep h1 h2]
  | _ => simp [AV.val] at h
theorem aop_mapSet {t k e : TypeId} {x y z : Operand} {l : Nat} {ks : List Lit} {kv : AV} {key : Value} {kl : Lit} {T : List (Nat × AV)} {O : List (Nat × Ob)} (ho : o.op = .mapUpdate t x y z) (hd : o.dst = none) (ht : P.underlying t = some (.map k e))
    (hx : ev T x = some (.map l)) (hl : ok O l = some (.mp P k ks)) (hy : ev T y = some kv) (hkv : kv.val = some key) (hz : ev T z = some (.imm (.bool true))) (hkey : keyOf P k key = some kl) (hn : ks.length < maxLen) : AOp P c N o ⟨T, O⟩ (fun σ2 => σ2 = ⟨T, (l, .mp P k (kl :: ks)) :: O⟩) := by
  rintro a w ⟨ρ, S, hc⟩
  have hx' := qaF hc hx
  have hy' := val_rep hkv (qaF hc hy)
  have hz' := qaF hc hz
  simp only [Rep] at hx' hz'
  obtain ⟨hU, hxe, r', hr'⟩ := hx'
  obtain ⟨r, hr, n, D, K, hown, hnn, hmem⟩ := hc.O l _ hl
  rw [hr] at hxe
  obtain ⟨w', hrun, hown2, hgrow⟩ := hown.update K ht (Nat.lt_of_le_of_lt hnn hn) hkey (val := .bool true) (d := .lit (.bool true)) (ps := []) rfl
  have hf : Far (fun b => blk (ρ l) = some b) w w' := by
    refine ⟨hgrow.os, hgrow.tape, hgrow.output, hgrow.size, fun i hi hb => hgrow.block i hi fun e => hb ?_, run_drawn _ _ _ _ hrun⟩
    rw [hr]; simpa [blk] using e.symm
  have hIs : Maps.IsMap D := hown.isMap
  have hob : ObOk w' ρ S (St.U ⟨T, (l, .mp P k (kl :: ks)) :: O⟩) l (.mp P k (kl :: ks)) := by
    refine ⟨r, hr, n + 1, _, K, hown2, by simp only [List.length_cons]; omega, fun u => ?_⟩
    by_cases hu : u = kl
    · subst hu
      exact ⟨fun _ z => atKey_put_same hIs (K.key hkey) _ z, fun h => absurd (List.mem_cons_self) h⟩
    · have h2 := hmem u
      refine ⟨fun h z => ?_, fun h z => ?_⟩
      · rw [atKey_put_other hu]
        exact h2.1 ((List.mem_cons.1 h).resolve_left hu) z
      · rw [atKey_put_other hu]
        exact h2.2 (fun h3 => h (List.mem_cons_of_mem _ h3)) z
  unfold Oper.wp
  have : (execOp a.eval o).run P w = .ok .skip w' := by
    simp only [execOp, ho, hxe, hy', hz']
    simp [Sem.run_bind, hrun]
  rw [this]
  have hput : a.put o.dst undef = a := by rw [hd]; rfl
  simp only [Oper.upon, hput]
  exact ⟨_, ⟨ρ, S, hc.modOb hl trivial hf hob⟩, rfl⟩
theorem awps_mapSet {ops : Array Oper} {rest : List Oper} {t k e : TypeId} {x y z : Operand} {l : Nat} {ks : List Lit} {kv : AV} {key : Value} {kl : Lit} {T : List (Nat × AV)} {O : List (Nat × Ob)} (hg : o.guard = none) (ho : o.op = .mapUpdate t x y z) (hd : o.dst = none) (ht : P.underlying t = some (.map k e))
    (hx : ev T x = some (.map l)) (hl : ok O l = some (.mp P k ks)) (hy : ev T y = some kv) (hkv : kv.val = some key) (hz : ev T z = some (.imm (.bool true))) (hkey : keyOf P k key = some kl) (hn : ks.length < maxLen)
    (K : awps P c N ops rest Q ⟨T, (l, .mp P k (kl :: ks)) :: O⟩) : awps P c N ops (o :: rest) Q ⟨T, O⟩ := by
  refine qdx hg fun a w hc => Oper.wp_mono ?_ (aop_mapSet ho hd ht hx hl hy hkv hz hkey hn a w hc)
  rintro a w ⟨σ2, h2, rfl⟩
  exact ⟨_, h2, K⟩
theorem Far0.of_below {w w' : World} (h : Below w.heap.size w w') : Far0 (fun _ => False) w w' := ⟨h.os, h.tape, h.output, h.size, fun b hb _ => h.block b hb⟩
theorem C_freshrow {T T' : List (Nat × AV)} {O O' : List (Nat × Ob)} {a : Act} {w w' : World} {ρ : Nat → Value} {S : Bool → Nat → Prop} {e : TypeId} {v : Value} {xs : List Value} {d l : Nat} (hc : Conc c N ⟨T, O⟩ a w ρ S) (hD : ¬ c.D) (hf : Far0 (fun _ => False) w w') (hrow : w'.ownsRow w.heap.size e 1 v xs.length xs) (h1 : ∀ y ∈ xs, y.oneCell' = true) (hze : Zsz e = 1)
    (hd : d < N) (hl : ok O l = none) (hL : ¬ c.L l) (hT' : frT l (.dat true 1 (xs.map fun x => [.imm x])) ((d, .row l) :: T) = T') (hO' : frO l (.dat true 1 (xs.map fun x => [.imm x])) ((l, .rowd e 1 true (xs.map fun x => [.imm x])) :: O) = O') : C c N ⟨T', (l, .dead) :: O'⟩ (a.put (some d) v) w' := by
  have hw0 := hc.fm.size
  have hg : Conc c N ⟨T, O⟩ a w' ρ S := hc.grow0 hf (fun h => absurd h hD) (fun _ _ _ h => h) (fun _ _ _ _ _ _ h => h) (fun _ _ h => h.elim)
  have hfl : (xs.map fun x => [D.imm x]).flatten = xs.map .imm := by
    clear hrow h1 hT' hO'
    induction xs with
    | nil => rfl
    | cons x xs ih => simp only [List.map_cons, List.flatten_cons, ih]; rfl
  have hrl : ∀ (ρ : Nat → Value) (S : Bool → Nat → Prop) (U : Nat → Prop), RepL w' ρ S U (lift true (xs.map fun x => [D.imm x]).flatten) xs := fun ρ S U => by
    rw [hfl]
    clear hrow h1 hT' hO' hfl
    induction xs with
    | nil => simp [lift, RepL]
    | cons x xs ih => simp only [lift, List.map_cons, D.av, RepL]; exact ⟨x, xs, rfl, by simp [Rep], ih⟩
  have ha : Conc c N ⟨T, (l, .rowd e 1 true (xs.map fun x => [.imm x])) :: O⟩ a w' (upd ρ l v) S := by
    refine hg.addOb hl (fun b hb => ?_) ⟨fun d hd => by simp only [List.mem_map] at hd; obtain ⟨x, _, rfl⟩ := hd; rfl, xs, by rw [qb1, List.length_map]; exact ⟨hrow.1, hrow.2.imp id fun ⟨g, cap, cur, h2, h3, h4⟩ => ⟨g, cap, cur, h2, Nat.zero_le _, h4⟩⟩, h1, hrl _ _ _⟩
    rcases hrow.2 with ⟨hv, _⟩ | ⟨g, cap, cur, hv, hgb, hh, _⟩
    · rw [hv] at hb; simp [blk] at hb
    · rw [hv] at hb; simp only [blk, Option.some.injEq] at hb; subst hb
      have hlt : g < w'.heap.size := by
        rcases Nat.lt_or_ge g w'.heap.size with h | h
        · exact h
        · rw [Array.getElem?_eq_none h] at hh; cases hh
      exact ⟨hlt, by omega, fun f hS => by have := hc.Sb f _ hS; omega, fun m om hm hv' e' => by have := hc.lt m om _ hm hv' e'; omega⟩
  have hput := ha.put (dst := some d) (v := .row l) (x := v) (fun e he => by cases he; exact hd) (by
    simp only [Rep]
    refine ⟨by simp [St.U, qa3], by rw [qb1], ?_⟩
    rcases hrow.2 with ⟨hv, _⟩ | ⟨g, cap, cur, hv, _⟩
    · exact ⟨none, 0, 0, hv⟩
    · exact ⟨_, _, _, hv⟩)
  exact qa4 (c := c) (N := N) (T := (d, .row l) :: T) (O := (l, .rowd e 1 true (xs.map fun x => [.imm x])) :: O) (e := e) (by simp [qa3]) (Nat.one_pos) hL hT' hO' (fun _ => hze) _ _ ⟨_, _, hput⟩
end
end Go.Proofs.YtpgceiijoedppaaGreat
