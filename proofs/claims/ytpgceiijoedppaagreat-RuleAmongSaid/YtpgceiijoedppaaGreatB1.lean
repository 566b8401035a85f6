/- Part 1 of the proof: SymA, SymB, SymC, SymD, SymE, SymF, SymG. -/
import Derived.WalkKit
import Derived.Orders
import Derived.Below
import Derived.Maps.Own
import Derived.Maps.Ext
import Derived.Maps.Range
import Derived.LoopN
import Derived.Laws.Rows
import Derived.Laws.CopyRow
import Derived.KernelRfl
import Derived.Maps.AppendAt
import Derived.WideLaws
set_option linter.unusedVariables false
set_option linter.unusedSimpArgs false
namespace Go.Proofs.YtpgceiijoedppaaGreat
open Go
theorem viewStore_drawn {p : Program} {w w' : World} {at_ : Addr} {u : TypeId} {k : Addr} {v : Value} {b : Bool} {l : List Addr} (h : w.viewStore p at_ u k v b = .ok (w', l)) : w'.drawn = w.drawn := by
  unfold World.viewStore at h
  simp only [bind, Except.bind, pure, Except.pure, throw, throwThe, MonadExceptOf.throw] at h
  repeat' split at h
  all_goals first | cases h | skip
  all_goals rfl
theorem ask_drawn {α : Type} : ∀ (x : Ask α) (w : World), w.drawn ≤ (w.ask x).2.drawn
  | .done a, w => Nat.le_refl _
  | .ask what range k, w => by
    simp only [World.ask]
    split
    · exact ask_drawn (k 0) w
    · exact Nat.le_trans (Nat.le_succ _) (ask_drawn (k _) { w with drawn := w.drawn + 1 })
theorem sys_drawn (w : World) (c : Sys) : w.drawn ≤ (w.sys c).2.drawn := by
  unfold World.sys
  split
  · exact Nat.le_refl _
  · rename_i r os w2 _ h
    have := ask_drawn (Kernel.perform c w.os) w
    rw [h] at this
    exact this
theorem farStore_drawn {P : Program} {w w' : World} {a : Addr} {v : Value} {b : Bool} {l : List Addr} (h : w.farStore P a v b = .ok (w', l)) : w'.drawn = w.drawn := by
  unfold World.farStore at h
  split at h
  · split at h
    · rename_i r h3; cases h; exact viewStore_drawn h3
    · cases h
  · cases h
theorem freeze_drawn (w : World) (a : Addr) (n : Nat) : (w.freeze a n).drawn = w.drawn := by unfold World.freeze; split <;> rfl
theorem run_drawn {α : Type} {P : Program} (x : Sem α) : ∀ (w : World) (v : α) (w' : World), x.run P w = .ok v w' → w.drawn ≤ w'.drawn := by
  induction x with
  | pure a => intro w v w' h; simp only [Sem.run] at h; cases h; exact Nat.le_refl _
  | load m a k ih =>
    intro w v w' h
    simp only [Sem.run] at h
    split at h
    · have := ih _ _ _ _ h; exact this
    · split at h
      · have := ih _ _ _ _ h; exact this
      · cases h
  | store m a u k ih =>
    intro w v w' h
    have key : ∀ r : Result α, r = .ok v w' → (∀ w2 : World, w2.drawn = w.drawn → r = k.run P w2 → w.drawn ≤ w'.drawn) := fun r hr w2 h2 h3 => by
      have := ih w2 v w' (by rw [← h3]; exact hr)
      omega
    cases u <;> simp only [Sem.run] at h <;> first
      | (cases h; done)
      | (split at h
         · split at h
           · cases h
           · exact key _ h (w.setCell a _) rfl rfl
         · split at h
           · rename_i h2; exact key _ h _ (farStore_drawn h2) rfl
           · cases h)
  | new o k ih => intro w v w' h; simp only [Sem.run] at h; have := ih _ _ _ _ h; exact this
  | shape r k ih => intro w v w' h; simp only [Sem.run] at h; have := ih _ _ _ _ h; exact this
  | freeze a n k ih =>
    intro w v w' h
    simp only [Sem.run] at h
    have := ih _ _ _ h
    rw [freeze_drawn] at this; exact this
  | frozen a k ih => intro w v w' h; simp only [Sem.run] at h; have := ih _ _ _ _ h; exact this
  | getObj r k ih =>
    intro w v w' h
    simp only [Sem.run] at h
    split at h
    · cases h
    · have := ih _ _ _ _ h; exact this
    · cases h
  | setObj r o k ih =>
    intro w v w' h
    simp only [Sem.run] at h
    split at h
    · cases h
    · have := ih _ _ _ h; exact this
    · cases h
  | choose q k ih =>
    intro w v w' h
    simp only [Sem.run] at h
    split at h
    · have := ih _ _ _ _ h; exact this
    · have := ih _ _ _ _ h; exact Nat.le_trans (Nat.le_succ _) this
  | sys c k ih =>
    intro w v w' h
    simp only [Sem.run] at h
    have := ih _ _ _ _ h
    exact Nat.le_trans (sys_drawn w c) this
  | program k ih => intro w v w' h; simp only [Sem.run] at h; have := ih _ _ _ _ h; exact this
  | mark m k ih => intro w v w' h; simp only [Sem.run] at h; have := ih _ _ _ h; exact this
  | halt h => intro w v w' h; simp only [Sem.run] at h; cases h
inductive D where
  | imm (v : Value)
  | sl (k : Nat) (es : List (List D))
def Zsz (t : TypeId) : Nat := [1, 1, 1, 1, 1, 1, 1, 4, 4, 1, 1, 1, 1, 2, 2, 1, 1, 1, 1, 1, 1, 1, 1, 1, 1, 4, 4, 1, 1, 1, 7, 7, 1, 4, 4, 9, 9, 1, 16, 16, 1, 1, 1, 1, 1, 1, 1, 1, 1, 1, 1, 1, 2, 2, 4, 4, 1, 1, 1, 1, 1, 1, 1, 1, 1, 1, 1, 1, 6, 6, 7, 7, 1, 1, 1, 1, 1, 1, 1, 1, 1, 1, 1, 1, 1, 1, 9, 9, 1, 1, 1, 1, 1, 1, 1, 1, 1, 1, 1, 1, 1, 1, 1, 1, 1, 1, 1, 1, 1, 1, 1, 1, 1, 1, 1, 1, 1, 5, 5, 1, 9, 9, 1, 1, 1, 1, 1, 1, 1, 1, 1, 1, 1, 1, 1, 1, 1, 1, 1, 1, 1, 1, 5, 5, 1, 1, 1, 1, 1, 1, 1, 1, 1, 1, 1, 1, 1, 1, 1, 1, 1, 1, 1, 1, 1, 1, 1, 1, 3, 1, 1, 1, 1, 1, 1, 1, 1, 1, 1, 1, 1, 1, 1, 1, 1, 1, 1, 1, 1, 1, 1, 1, 1, 1, 1, 1, 1, 1, 1, 1, 1, 1, 1, 1, 1, 1, 1, 1, 1, 1, 1, 1, 1, 1, 1, 1, 1, 1, 1, 1, 1, 1, 1, 1, 2, 2, 1, 1, 1, 1, 1, 1, 1, 1, 1, 1, 1, 1, 1, 1, 1, 1, 1, 1, 1, 1, 1, 1, 1, 1, 1, 1, 1, 1, 1, 1, 1, 1, 1, 1, 1, 1, 1, 1, 1, 1, 1, 1, 3, 3, 1, 1, 1, 1, 1, 1, 8, 8, 1, 1, 1, 1, 1, 1, 1, 1, 1, 1, 1, 1, 1, 1, 1, 1, 1, 1, 1, 1, 1, 1, 1, 1, 1, 1, 1, 1, 1, 1, 1, 1, 1, 1, 1, 1, 1, 1, 1, 1, 1, 1, 1, 1, 1, 1, 1, 1, 1, 1, 1, 1, 1, 1, 1, 1, 1, 1, 1, 1, 1, 1, 1, 1, 1, 1, 1, 4, 4, 0, 0, 0, 1, 1, 1, 1, 1, 1, 11, 11, 1].getD t 0
def Al (w : World) (b k off : Nat) : Prop := off % k = 0 ∧ ∃ cur ty fr, w.heap[b]? = some (.cells cur ty fr) ∧ Zsz ty = k
theorem Al.of_block {w w' : World} {b k off : Nat} (h : Al w b k off) (hb : w'.heap[b]? = w.heap[b]?) : Al w' b k off := by
  obtain ⟨h1, cur, ty, fr, h2, h3⟩ := h
  exact ⟨h1, cur, ty, fr, by rw [hb, h2], h3⟩
mutual
def RepD (w : World) (F : Bool) (S : Nat → Prop) : D → Value → Prop
  | .imm v, x => x = v
  | .sl k es, x => ∃ A n c, x = .slice A n c ∧ n = es.length ∧ n ≤ c ∧ c ≤ maxLen ∧ (n = 0 ∨ ∃ b off, A = some ⟨b, off, none⟩ ∧ S b ∧ (F = true → Al w b k off) ∧ qch w F S b k off es)
def qch (w : World) (F : Bool) (S : Nat → Prop) (b k : Nat) : Nat → List (List D) → Prop
  | _, [] => True
  | off, e :: es => (e.length = k ∧ qbE w F S b off e) ∧ qch w F S b k (off + k) es
def qbE (w : World) (F : Bool) (S : Nat → Prop) (b : Nat) : Nat → List D → Prop
  | _, [] => True
  | off, d :: ds => (∃ v, w.cell? ⟨b, off, none⟩ = some v ∧ v.oneCell' = true ∧ RepD w F S d v) ∧ qbE w F S b (off + 1) ds
end
inductive AV where
  | any
  | imm (v : Value)
  | dat (f : Bool) (k : Nat) (es : List (List D))
  | agg (cs : List AV)
  | ptr (l off : Nat)
  | elp (f : Bool) (cs : List D)
  | row (l : Nat)
  | fn (f : FuncId) (caps : List AV)
  | map (l : Nat)
  | tup (vs : List AV)
  | vw (l off n c : Nat)
def blk : Value → Option Nat
  | .pointer (some a) => some a.block
  | .slice (some a) _ _ => some a.block
  | .map (some r) => some r
  | _ => none
mutual
def Rep (w : World) (ρ : Nat → Value) (S : Bool → Nat → Prop) (U : Nat → Prop) : AV → Value → Prop
  | .any, _ => True
  | .imm v, x => x = v
  | .dat f k es, x => RepD w f (S f) (.sl k es) x
  | .agg cs, x => ∃ xs : List Value, x = .agg xs.toArray ∧ (∀ y ∈ xs, y.oneCell' = true) ∧ RepL w ρ S U cs xs
  | .ptr l off, x => U l ∧ ∃ b, blk (ρ l) = some b ∧ x = .pointer (some ⟨b, off, none⟩)
  | .elp f cs, x => ∃ b off, x = .pointer (some ⟨b, off, none⟩) ∧ S f b ∧ qbE w f (S f) b off cs
  | .row l, x => U l ∧ x = ρ l ∧ ∃ A n c, x = .slice A n c
  | .fn f caps, x => ∃ xs : List Value, x = .func (.func f) #[] xs.toArray ∧ RepL w ρ S U caps xs
  | .map l, x => U l ∧ x = ρ l ∧ ∃ r, x = .map (some r)
  | .tup vs, x => ∃ xs : List Value, x = .tuple xs.toArray ∧ RepL w ρ S U vs xs
  | .vw l off n c, x => U l ∧ ∃ b, (∃ m, ρ l = .slice (some ⟨b, 0, none⟩) m m) ∧ x = .slice (some ⟨b, off, none⟩) n c
def RepL (w : World) (ρ : Nat → Value) (S : Bool → Nat → Prop) (U : Nat → Prop) : List AV → List Value → Prop
  | [], xs => xs = []
  | a :: az, xs => ∃ y ys, xs = y :: ys ∧ Rep w ρ S U a y ∧ RepL w ρ S U az ys
end
mutual
theorem RepD.mono {w w' : World} {F F' : Bool} {S S' : Nat → Prop} (hF : F' = true → F = true) (hS : ∀ b, S b → S' b) (hw : ∀ b, S b → w'.heap[b]? = w.heap[b]?) :
    ∀ (d : D) (x : Value), RepD w F S d x → RepD w' F' S' d x
  | .imm v, x, h => by simpa [RepD] using h
  | .sl k es, x, h => by
    simp only [RepD] at h ⊢
    obtain ⟨A, n, c, rfl, hn, hc, hm, h⟩ := h
    refine ⟨A, n, c, rfl, hn, hc, hm, ?_⟩
    rcases h with h | ⟨b, off, hA, hb, hal, h⟩
    · exact .inl h
    · exact .inr ⟨b, off, hA, hS b hb, fun e => (hal (hF e)).of_block (hw b hb), qch.mono hF hS hw b k hb off es h⟩
theorem qch.mono {w w' : World} {F F' : Bool} {S S' : Nat → Prop} (hF : F' = true → F = true) (hS : ∀ b, S b → S' b) (hw : ∀ b, S b → w'.heap[b]? = w.heap[b]?) (b k : Nat) (hb : S b) :
    ∀ (off : Nat) (es : List (List D)), qch w F S b k off es → qch w' F' S' b k off es
  | _, [], _ => by simp [qch]
  | off, e :: es, h => by
    simp only [qch] at h ⊢
    exact ⟨⟨h.1.1, qbE.mono hF hS hw b hb off e h.1.2⟩, qch.mono hF hS hw b k hb (off + k) es h.2⟩
theorem qbE.mono {w w' : World} {F F' : Bool} {S S' : Nat → Prop} (hF : F' = true → F = true) (hS : ∀ b, S b → S' b) (hw : ∀ b, S b → w'.heap[b]? = w.heap[b]?) (b : Nat) (hb : S b) :
    ∀ (off : Nat) (ds : List D), qbE w F S b off ds → qbE w' F' S' b off ds
  | _, [], _ => by simp [qbE]
  | off, d :: ds, h => by
    simp only [qbE] at h ⊢
    obtain ⟨⟨v, hv, h1, hd⟩, h⟩ := h
    refine ⟨⟨v, ?_, h1, RepD.mono hF hS hw d v hd⟩, qbE.mono hF hS hw b hb (off + 1) ds h⟩
    rw [World.cell?_of_block (w := w) (hw b hb)]
    exact hv
end
mutual
theorem Rep.mono {w w' : World} {ρ ρ' : Nat → Value} {S S' : Bool → Nat → Prop} {U U' : Nat → Prop} (hS : ∀ f b, S f b → S' f b) (hw : ∀ f b, S f b → w'.heap[b]? = w.heap[b]?)
    (hU : ∀ l, U l → U' l) (hρ : ∀ l, U l → ρ' l = ρ l) : ∀ (v : AV) (x : Value), Rep w ρ S U v x → Rep w' ρ' S' U' v x
  | .any, x, _ => by simp [Rep]
  | .imm v, x, h => by simpa [Rep] using h
  | .dat f k es, x, h => by
    simp only [Rep] at h ⊢
    exact RepD.mono id (hS f) (hw f) _ _ h
  | .agg cs, x, h => by
    simp only [Rep] at h ⊢
    obtain ⟨xs, hx, h1, h⟩ := h
    exact ⟨xs, hx, h1, RepL.mono hS hw hU hρ cs xs h⟩
  | .ptr l off, x, h => by
    simp only [Rep] at h ⊢
    obtain ⟨hl, b, hb, hx⟩ := h
    exact ⟨hU l hl, b, by rw [hρ l hl]; exact hb, hx⟩
  | .elp f cs, x, h => by
    simp only [Rep] at h ⊢
    obtain ⟨b, off, hx, hb, h⟩ := h
    exact ⟨b, off, hx, hS f b hb, qbE.mono id (hS f) (hw f) b hb off cs h⟩
  | .row l, x, h => by
    simp only [Rep] at h ⊢
    exact ⟨hU l h.1, by rw [hρ l h.1]; exact h.2.1, h.2.2⟩
  | .fn f caps, x, h => by
    simp only [Rep] at h ⊢
    obtain ⟨xs, hx, h⟩ := h
    exact ⟨xs, hx, RepL.mono hS hw hU hρ caps xs h⟩
  | .map l, x, h => by
    simp only [Rep] at h ⊢
    exact ⟨hU l h.1, by rw [hρ l h.1]; exact h.2.1, h.2.2⟩
  | .tup vs, x, h => by
    simp only [Rep] at h ⊢
    obtain ⟨xs, hx, h⟩ := h
    exact ⟨xs, hx, RepL.mono hS hw hU hρ vs xs h⟩
  | .vw l off n c, x, h => by
    simp only [Rep] at h ⊢
    obtain ⟨hl, b, hb, hx⟩ := h
    exact ⟨hU l hl, b, by rw [hρ l hl]; exact hb, hx⟩
theorem RepL.mono {w w' : World} {ρ ρ' : Nat → Value} {S S' : Bool → Nat → Prop} {U U' : Nat → Prop} (hS : ∀ f b, S f b → S' f b) (hw : ∀ f b, S f b → w'.heap[b]? = w.heap[b]?)
    (hU : ∀ l, U l → U' l) (hρ : ∀ l, U l → ρ' l = ρ l) : ∀ (vs : List AV) (xs : List Value), RepL w ρ S U vs xs → RepL w' ρ' S' U' vs xs
  | [], xs, h => by simpa [RepL] using h
  | v :: vs, xs, h => by
    simp only [RepL] at h ⊢
    obtain ⟨y, ys, hx, h1, h2⟩ := h
    exact ⟨y, ys, hx, Rep.mono hS hw hU hρ v y h1, RepL.mono hS hw hU hρ vs ys h2⟩
end
theorem RepL.length {w : World} {ρ : Nat → Value} {S : Bool → Nat → Prop} {U : Nat → Prop} : ∀ {vs : List AV} {xs : List Value}, RepL w ρ S U vs xs → xs.length = vs.length
  | [], xs, h => by simp only [RepL] at h; simp [h]
  | v :: vs, xs, h => by
    simp only [RepL] at h
    obtain ⟨y, ys, rfl, _, h⟩ := h
    simp [RepL.length h]
theorem RepL.get {w : World} {ρ : Nat → Value} {S : Bool → Nat → Prop} {U : Nat → Prop} : ∀ {vs : List AV} {xs : List Value}, RepL w ρ S U vs xs → ∀ {i : Nat} {v : AV}, vs[i]? = some v → ∃ x, xs[i]? = some x ∧ Rep w ρ S U v x
  | [], xs, h, i, v, hv => by simp at hv
  | a :: vs, xs, h, i, v, hv => by
    simp only [RepL] at h
    obtain ⟨y, ys, rfl, h1, h⟩ := h
    cases i with
    | zero => simp only [List.getElem?_cons_zero, Option.some.injEq] at hv; subst hv; exact ⟨y, by simp, h1⟩
    | succ i => simpa using RepL.get h (i := i) (v := v) (by simpa using hv)
theorem RepL.append {w : World} {ρ : Nat → Value} {S : Bool → Nat → Prop} {U : Nat → Prop} : ∀ {vs us : List AV} {xs ys : List Value}, RepL w ρ S U vs xs → RepL w ρ S U us ys → RepL w ρ S U (vs ++ us) (xs ++ ys)
  | [], us, xs, ys, h, k => by simp only [RepL] at h; simpa [h] using k
  | v :: vs, us, xs, ys, h, k => by
    simp only [RepL] at h
    obtain ⟨y, zs, rfl, h1, h2⟩ := h
    simp only [List.cons_append, RepL]
    exact ⟨y, zs ++ ys, rfl, h1, RepL.append h2 k⟩
theorem RepL.drop {w : World} {ρ : Nat → Value} {S : Bool → Nat → Prop} {U : Nat → Prop} : ∀ (n : Nat) {vs : List AV} {xs : List Value}, RepL w ρ S U vs xs → RepL w ρ S U (vs.drop n) (xs.drop n)
  | 0, vs, xs, h => by simpa using h
  | n + 1, [], xs, h => by simp only [RepL] at h; simp [h, RepL]
  | n + 1, v :: vs, xs, h => by
    simp only [RepL] at h
    obtain ⟨y, zs, rfl, h1, h2⟩ := h
    simpa using RepL.drop n h2
theorem RepL.take {w : World} {ρ : Nat → Value} {S : Bool → Nat → Prop} {U : Nat → Prop} : ∀ (n : Nat) {vs : List AV} {xs : List Value}, RepL w ρ S U vs xs → RepL w ρ S U (vs.take n) (xs.take n)
  | 0, vs, xs, h => by simp [RepL]
  | n + 1, [], xs, h => by simp only [RepL] at h; simp [h, RepL]
  | n + 1, v :: vs, xs, h => by
    simp only [RepL] at h
    obtain ⟨y, zs, rfl, h1, h2⟩ := h
    simp only [List.take_succ_cons, RepL]
    exact ⟨y, zs.take n, rfl, h1, RepL.take n h2⟩
theorem RepL.set {w : World} {ρ : Nat → Value} {S : Bool → Nat → Prop} {U : Nat → Prop} : ∀ (n : Nat) {vs : List AV} {xs : List Value} {v : AV} {x : Value}, RepL w ρ S U vs xs → Rep w ρ S U v x → RepL w ρ S U (vs.set n v) (xs.set n x)
  | n, [], xs, v, x, h, _ => by simp only [RepL] at h; simp [h, RepL]
  | 0, u :: vs, xs, v, x, h, k => by
    simp only [RepL] at h
    obtain ⟨y, zs, rfl, h1, h2⟩ := h
    simp only [List.set_cons_zero, RepL]
    exact ⟨x, zs, rfl, k, h2⟩
  | n + 1, u :: vs, xs, v, x, h, k => by
    simp only [RepL] at h
    obtain ⟨y, zs, rfl, h1, h2⟩ := h
    simp only [List.set_cons_succ, RepL]
    exact ⟨y, zs.set n x, rfl, h1, RepL.set n h2 k⟩
def D.av (f : Bool) : D → AV
  | .imm v => .imm v
  | .sl k es => .dat f k es
def lift (f : Bool) (ds : List D) : List AV := ds.map (D.av f)
inductive Ob where
  | box (cs : List AV)
  | row (e : TypeId) (k : Nat) (cs : List AV)
  | rowd (e : TypeId) (k : Nat) (f : Bool) (es : List (List D))
  | mp (P : Program) (k : TypeId) (ks : List Lit)
  | dead
  | arr (e : TypeId) (k : Nat) (f : Bool) (es : List (Option (List D)))
  | mx (it : Bool) (P : Program) (k : TypeId) (kvs : List (Lit × List D)) (cur : Option (List D))
structure St where
  T : List (Nat × AV)
  O : List (Nat × Ob)
def lk : List (Nat × AV) → Nat → Option AV
  | [], _ => none
  | (s, v) :: T, t => bif Nat.beq s t then some v else lk T t
def ok : List (Nat × Ob) → Nat → Option Ob
  | [], _ => none
  | (s, v) :: T, t => bif Nat.beq s t then some v else ok T t
def St.U (σ : St) (l : Nat) : Prop := (ok σ.O l).isSome = true
def Ob.live : Ob → Prop
  | .dead => False
  | _ => True
def R1 (v : Value) : Option (DataW Unit × List MemPlace) := match v with
  | .bool b => some (.lit (.bool b), [])
  | _ => none
def MapOk (w : World) (r : Nat) (P : Program) (k : TypeId) (ks : List Lit) : Prop := ∃ (n : Nat) (D : DataW Unit), Maps.Keyed P k ∧ w.ownsMap P k R1 r n D ∧ n ≤ ks.length ∧ ∀ l : Lit, (l ∈ ks → ∀ z, D.atKey l z = .lit (.bool true)) ∧ (l ∉ ks → ∀ z, D.atKey l z = z)
theorem MapOk.of_block {w w' : World} {r : Nat} {P : Program} {k : TypeId} {ks : List Lit} (hb : w'.heap[r]? = w.heap[r]?) (h : MapOk w r P k ks) : MapOk w' r P k ks := by
  obtain ⟨n, D, h1, ⟨es, clock, h2, h3, h4, h5⟩, h6⟩ := h
  exact ⟨n, D, h1, ⟨es, clock, by rw [hb]; exact h2, h3, h4, h5⟩, h6⟩
def RvD (w : World) (F : Nat → Prop) (ds : List D) (v : Value) : Prop := ∃ xs : List Value, v = .agg xs.toArray ∧ (∀ y ∈ xs, y.oneCell' = true) ∧ xs.length = ds.length ∧ ∀ (i : Nat) (d : D) (x : Value), ds[i]? = some d → xs[i]? = some x → RepD w false F d x
theorem RvD.mono {w w' : World} {F F' : Nat → Prop} (hF : ∀ b, F b → F' b) (hw : ∀ b, F b → w'.heap[b]? = w.heap[b]?) {ds : List D} {v : Value} (h : RvD w F ds v) : RvD w' F' ds v := by
  obtain ⟨xs, h1, h2, h3, h4⟩ := h
  exact ⟨xs, h1, h2, h3, fun i d x hd hx => (h4 i d x hd hx).mono id hF hw⟩
def RV (v : Value) : Option (DataW Value × List MemPlace) := some (.held v, [])
def MxOk (w : World) (F : Nat → Prop) (it : Bool) (P : Program) (k : TypeId) (kvs : List (Lit × List D)) (cur : Option (List D)) (v : Value) : Prop :=
  if it = true then
    ∃ (r b n cnt : Nat) (Dt : DataW Value) (left : Lit → Bool), v = .pointer (some ⟨r, 0, none⟩) ∧ F b ∧ Maps.Keyed P k ∧ w.ranges P k RV b r n Dt left cnt ∧ (kvs.map (·.1)).Nodup ∧ (∀ kl, left kl = true ↔ kl ∈ kvs.map (·.1)) ∧ (∀ p ∈ kvs, ∃ x, (∀ z, Dt.atKey p.1 z = .held x) ∧ RvD w F p.2 x) ∧
      ∀ ds, cur = some ds → ∃ key x : Value, RvD w F ds x ∧ ∀ w2 : World, w2.heap[r]? = w.heap[r]? → w2.heap[b]? = w.heap[b]? → (Instr.entry (.pointer (some ⟨r, 0, none⟩))).run P w2 = .ok (.tuple #[key, x]) w2
  else
    ∃ (r n : Nat) (Dt : DataW Value), v = .map (some r) ∧ Maps.Keyed P k ∧ w.ownsMap P k RV r n Dt ∧ n ≤ kvs.length ∧ (kvs.map (·.1)).Nodup ∧ (∀ kl, kl ∉ kvs.map (·.1) → ∀ z, Dt.atKey kl z = z) ∧ ∀ p ∈ kvs, ∃ x, (∀ z, Dt.atKey p.1 z = .held x) ∧ RvD w F p.2 x
theorem MxOk.mono {w w' : World} {F F' : Nat → Prop} (hF : ∀ b, F b → F' b) (hw : ∀ b, F b → w'.heap[b]? = w.heap[b]?) {it : Bool} {P : Program} {k : TypeId} {kvs : List (Lit × List D)} {cur : Option (List D)} {v : Value} (hb : ∀ b, blk v = some b → w'.heap[b]? = w.heap[b]?) (h : MxOk w F it P k kvs cur v) : MxOk w' F' it P k kvs cur v := by
  cases it with
  | true =>
    simp only [MxOk, if_true] at h ⊢
    obtain ⟨r, b, n, cnt, Dt, left, rfl, h1, h2, h3, h4, h5, h6, h7⟩ := h
    have hr := hb r rfl
    have hbb := hw b h1
    refine ⟨r, b, n, cnt, Dt, left, rfl, hF b h1, h2, ?_, h4, h5, fun p hp => ?_, fun ds hds => ?_⟩
    · obtain ⟨es, clock, since, seen, c0, k1, k2, k3, k4, k5, k6⟩ := h3
      exact ⟨es, clock, since, seen, c0, by rw [hbb]; exact k1, k2, k3, k4, by rw [hr]; exact k5, k6⟩
    · obtain ⟨x, k1, k2⟩ := h6 p hp
      exact ⟨x, k1, k2.mono hF hw⟩
    · obtain ⟨key, x, k1, k2⟩ := h7 ds hds
      exact ⟨key, x, k1.mono hF hw, fun w2 e1 e2 => k2 w2 (e1.trans hr) (e2.trans hbb)⟩
  | false =>
    simp only [MxOk, Bool.false_eq_true, if_false] at h ⊢
    obtain ⟨r, n, Dt, rfl, h2, ⟨es, clock, h3, h3'⟩, h4, h5, h6, h7⟩ := h
    exact ⟨r, n, Dt, rfl, h2, ⟨es, clock, by rw [hb r rfl]; exact h3, h3'⟩, h4, h5, h6, fun p hp => by
      obtain ⟨x, k1, k2⟩ := h7 p hp
      exact ⟨x, k1, k2.mono hF hw⟩⟩
def ObOk (w : World) (ρ : Nat → Value) (S : Bool → Nat → Prop) (U : Nat → Prop) (l : Nat) : Ob → Prop
  | .box cs => ∃ b ty, ∃ xs : List Value, ρ l = .pointer (some ⟨b, 0, none⟩) ∧ w.heap[b]? = some (.cells xs.toArray ty (0, 0)) ∧ (∀ y ∈ xs, y.oneCell' = true) ∧ RepL w ρ S U cs xs
  | .row e k cs => ∃ n, ∃ xs : List Value, w.ownsRow 0 e k (ρ l) n xs ∧ (∀ y ∈ xs, y.oneCell' = true) ∧ RepL w ρ S U cs xs
  | .rowd e k f es => (∀ d ∈ es, d.length = k) ∧ ∃ xs : List Value, w.ownsRow 0 e k (ρ l) es.length xs ∧ (∀ y ∈ xs, y.oneCell' = true) ∧ RepL w ρ S U (lift f es.flatten) xs
  | .mp P k ks => ∃ r, ρ l = .map (some r) ∧ MapOk w r P k ks
  | .arr e k f es => ∃ b, ∃ xs : List Value, ρ l = .slice (some ⟨b, 0, none⟩) es.length es.length ∧ w.heap[b]? = some (.cells xs.toArray e (0, 0)) ∧ xs.length = es.length * k ∧ es.length ≤ maxLen ∧ (∀ (i : Nat) (d : List D), es[i]? = some (some d) → d.length = k ∧ RepL w ρ S U (lift f d) ((xs.drop (i * k)).take k) ∧ ∀ y ∈ (xs.drop (i * k)).take k, y.oneCell' = true)
  | .dead => True
  | .mx it P k kvs cur => MxOk w (S false) it P k kvs cur (ρ l)
theorem qcj {w w' : World} {base : Nat} {e : TypeId} {size n : Nat} {v : Value} {xs : List Value} (h : w.ownsRow base e size v n xs) (hb : ∀ b, blk v = some b → w'.heap[b]? = w.heap[b]?) : w'.ownsRow base e size v n xs := by
  obtain ⟨h1, h2⟩ := h
  refine ⟨h1, ?_⟩
  rcases h2 with h2 | ⟨g, cap, cur, hv, hg, hh, r⟩
  · exact .inl h2
  · exact .inr ⟨g, cap, cur, hv, hg, by rw [hb g (by simp [hv, blk])]; exact hh, r⟩
theorem ObOk.mono {w w' : World} {ρ ρ' : Nat → Value} {S S' : Bool → Nat → Prop} {U U' : Nat → Prop} {l : Nat} (hS : ∀ f b, S f b → S' f b) (hw : ∀ f b, S f b → w'.heap[b]? = w.heap[b]?)
    (hU : ∀ l, U l → U' l) (hρ : ∀ l, U l → ρ' l = ρ l) (hl : U l) {o : Ob} (hb : ∀ b, blk (ρ l) = some b → w'.heap[b]? = w.heap[b]?) (h : ObOk w ρ S U l o) : ObOk w' ρ' S' U' l o := by
  cases o with
  | box cs =>
    obtain ⟨b, ty, xs, h1, h2, h3, h4⟩ := h
    exact ⟨b, ty, xs, by rw [hρ l hl, h1], by rw [hb b (by simp [h1, blk]), h2], h3, h4.mono hS hw hU hρ⟩
  | row e k cs =>
    obtain ⟨n, xs, h1, h2, h3⟩ := h
    exact ⟨n, xs, by rw [hρ l hl]; exact qcj h1 hb, h2, h3.mono hS hw hU hρ⟩
  | rowd e k f es =>
    obtain ⟨h0, xs, h1, h2, h3⟩ := h
    exact ⟨h0, xs, by rw [hρ l hl]; exact qcj h1 hb, h2, h3.mono hS hw hU hρ⟩
  | mp P k ks =>
    obtain ⟨r, h1, h2⟩ := h
    exact ⟨r, by rw [hρ l hl, h1], h2.of_block (hb r (by simp [h1, blk]))⟩
  | dead => trivial
  | arr e k f es =>
    obtain ⟨b, xs, h1, h2, h3, h4, h5⟩ := h
    exact ⟨b, xs, by rw [hρ l hl, h1], by rw [hb b (by simp [h1, blk]), h2], h3, h4, fun i d hd => ⟨(h5 i d hd).1, (h5 i d hd).2.1.mono hS hw hU hρ, (h5 i d hd).2.2⟩⟩
  | mx it P k kvs cur =>
    simp only [ObOk] at h ⊢
    rw [hρ l hl]
    exact h.mono (hS false) (hw false) hb
structure Ctx where
  w0 : World
  W : Nat → Prop
  R : Nat → Prop
  ρ0 : Nat → Value
  L : Nat → Prop
  Q : Nat → Prop
  D : Prop := False
  V : Nat → Prop := fun _ => False
structure Far (W : Nat → Prop) (w w' : World) : Prop where
  os : w'.os = w.os
  tape : w'.tape = w.tape
  output : w'.output = w.output
  size : w.heap.size ≤ w'.heap.size
  block : ∀ b, b < w.heap.size → ¬ W b → w'.heap[b]? = w.heap[b]?
  dr : w.drawn ≤ w'.drawn
structure Far0 (W : Nat → Prop) (w w' : World) : Prop where
  os : w'.os = w.os
  tape : w'.tape = w.tape
  output : w'.output = w.output
  size : w.heap.size ≤ w'.heap.size
  block : ∀ b, b < w.heap.size → ¬ W b → w'.heap[b]? = w.heap[b]?
theorem Far.far0 {W : Nat → Prop} {w w' : World} (h : Far W w w') : Far0 W w w' := ⟨h.os, h.tape, h.output, h.size, h.block⟩
def SpV (x y : Value) : Prop := y = x ∨ (∃ k a b, x = .int k a ∧ y = .int k b) ∨ (∃ a b, x = .string a ∧ y = .string b) ∨ (∃ A n c, x = .slice A n c ∧ y = .slice none 0 0)
theorem SpV.trans {x y z : Value} (h : SpV x y) (k : SpV y z) : SpV x z := by
  rcases h with rfl | ⟨_, _, _, rfl, rfl⟩ | ⟨_, _, rfl, rfl⟩ | ⟨_, _, _, rfl, rfl⟩
  · exact k
  · rcases k with rfl | ⟨_, _, _, h, rfl⟩ | ⟨_, _, h, _⟩ | ⟨_, _, _, h, _⟩
    · exact .inr (.inl ⟨_, _, _, rfl, rfl⟩)
    · cases h; exact .inr (.inl ⟨_, _, _, rfl, rfl⟩)
    · cases h
    · cases h
  · rcases k with rfl | ⟨_, _, _, h, _⟩ | ⟨_, _, h, rfl⟩ | ⟨_, _, _, h, _⟩
    · exact .inr (.inr (.inl ⟨_, _, rfl, rfl⟩))
    · cases h
    · cases h; exact .inr (.inr (.inl ⟨_, _, rfl, rfl⟩))
    · cases h
  · rcases k with rfl | ⟨_, _, _, h, _⟩ | ⟨_, _, h, _⟩ | ⟨_, _, _, _, rfl⟩
    · exact .inr (.inr (.inr ⟨_, _, _, rfl, rfl⟩))
    · cases h
    · cases h
    · exact .inr (.inr (.inr ⟨_, _, _, rfl, rfl⟩))
def SpB (o o' : Option Obj) : Prop := o' = o ∨ ∃ (cur cur' : Array Value) (ty : TypeId) (fr : Nat × Nat), o = some (.cells cur ty fr) ∧ o' = some (.cells cur' ty fr) ∧ cur'.size = cur.size ∧ ∀ (i : Nat) (x y : Value), cur[i]? = some x → cur'[i]? = some y → SpV x y
theorem SpB.trans {a b c : Option Obj} (h : SpB a b) (k : SpB b c) : SpB a c := by
  rcases h with rfl | ⟨u, v, ty, fr, rfl, rfl, hs, h⟩
  · exact k
  · rcases k with rfl | ⟨u', v', ty', fr', h1, rfl, hs', h'⟩
    · exact .inr ⟨u, v, ty, fr, rfl, rfl, hs, h⟩
    · cases h1
      refine .inr ⟨u, v', ty, fr, rfl, rfl, by omega, fun i x z hx hz => ?_⟩
      have hlt : i < v.size := by have := (Array.getElem?_eq_some_iff.1 hz).1; omega
      exact (h i x v[i] hx (Array.getElem?_eq_getElem hlt)).trans (h' i v[i] z (Array.getElem?_eq_getElem hlt) hz)
structure Fm (c : Ctx) (S : Bool → Nat → Prop) (w : World) : Prop extends Far0 c.W c.w0 w where
  dr : c.D → c.w0.drawn ≤ w.drawn
  vq : ∀ b, c.V b → c.Q b
  vs : ∀ b, c.V b → ∃ f, S f b
  sp : ∀ b, c.V b → b < c.w0.heap.size → SpB c.w0.heap[b]? w.heap[b]?
  uf : ∀ b, S true b → ∃ cur ty, w.heap[b]? = some (.cells cur ty (0, 0))
theorem Fm.mono {c : Ctx} {S S' : Bool → Nat → Prop} {w : World} (h : Fm c S w) (hS : ∀ f b, S f b → ∃ g, S' g b) (hu : ∀ b, S' true b → S true b ∨ ∃ cur ty, w.heap[b]? = some (.cells cur ty (0, 0))) : Fm c S' w :=
  ⟨h.toFar0, h.dr, h.vq, fun b hb => let ⟨f, hf⟩ := h.vs b hb; hS f b hf, h.sp, fun b hb => (hu b hb).elim (h.uf b) id⟩
theorem Fm.grow {c : Ctx} {S S' : Bool → Nat → Prop} {w w' : World} {W : Nat → Prop} (h : Fm c S w) (k : Far0 W w w') (hd : c.D → w.drawn ≤ w'.drawn) (hS : ∀ f b, S f b → ∃ g, S' g b) (hu : ∀ f b, S f b → w'.heap[b]? = w.heap[b]?) (hu2 : ∀ b, S' true b → S true b ∨ ∃ cur ty, w'.heap[b]? = some (.cells cur ty (0, 0))) (hW : ∀ b, b < c.w0.heap.size → W b → c.W b) : Fm c S' w' :=
  ⟨⟨k.os.trans h.os, k.tape.trans h.tape, k.output.trans h.output, Nat.le_trans h.size k.size, fun b hb hw => (k.block b (Nat.lt_of_lt_of_le hb h.size) (fun h' => hw (hW b hb h'))).trans (h.block b hb hw)⟩,
    fun hD => Nat.le_trans (h.dr hD) (hd hD), h.vq, fun b hb => let ⟨f, hf⟩ := h.vs b hb; hS f b hf, fun b hb hl => by obtain ⟨f, hf⟩ := h.vs b hb; rw [hu f b hf]; exact h.sp b hb hl,
    fun b hb => (hu2 b hb).elim (fun h2 => by rw [hu true b h2]; exact h.uf b h2) id⟩
theorem Fm.start {c : Ctx} {S : Bool → Nat → Prop} (hQ : ∀ b, c.V b → c.Q b) (hV : ∀ b, c.V b → ∃ f, S f b) (hu : ∀ b, S true b → ∃ cur ty, c.w0.heap[b]? = some (.cells cur ty (0, 0))) : Fm c S c.w0 :=
  ⟨⟨rfl, rfl, rfl, Nat.le_refl _, fun _ _ _ => rfl⟩, fun _ => Nat.le_refl _, hQ, hV, fun _ _ _ => .inl rfl, hu⟩
structure Conc (c : Ctx) (N : Nat) (σ : St) (a : Act) (w : World) (ρ : Nat → Value) (S : Bool → Nat → Prop) : Prop where
  tm : a.tmps.size = N
  df : a.defers = []
  T : ∀ t v, lk σ.T t = some v → Rep w ρ S σ.U v (a.tmps.getD t undef)
  O : ∀ l o, ok σ.O l = some o → ObOk w ρ S σ.U l o
  dj : ∀ l l' o o' b, ok σ.O l = some o → ok σ.O l' = some o' → o.live → o'.live → blk (ρ l) = some b → blk (ρ l') = some b → l = l'
  dS : ∀ l o b f, ok σ.O l = some o → o.live → blk (ρ l) = some b → ¬ S f b
  wr : ∀ l o b, ok σ.O l = some o → o.live → blk (ρ l) = some b → c.w0.heap.size ≤ b ∨ (c.L l ∧ c.W b)
  lt : ∀ l o b, ok σ.O l = some o → o.live → blk (ρ l) = some b → b < w.heap.size
  SS : ∀ b, ¬ (S true b ∧ S false b)
  Sb : ∀ f b, S f b → b < w.heap.size
  Sn : ∀ b, S true b → c.Q b ∨ c.w0.heap.size ≤ b
  So : ∀ b, S false b → c.R b ∨ c.w0.heap.size ≤ b
  lo : ∀ l, c.L l → (ok σ.O l).isSome = true ∧ ρ l = c.ρ0 l
  fm : Fm c S w
def C (c : Ctx) (N : Nat) (σ : St) (a : Act) (w : World) : Prop := ∃ ρ S, Conc c N σ a w ρ S
theorem Nat.beq_self_eq_true' (n : Nat) : Nat.beq n n = true := by simp
def wQ (c : Ctx) (N : Nat) (Q : Exit → St → Prop) : Exit → Act → World → Prop := fun e a w => ∃ σ, C c N σ a w ∧ Q e σ
def awp (P : Program) (c : Ctx) (N : Nat) (x : Code) (Q : Exit → St → Prop) (σ : St) : Prop := ∀ a w, C c N σ a w → x.wp P (wQ c N Q) a w
def awps (P : Program) (c : Ctx) (N : Nat) (ops : Array Oper) (rest : List Oper) (Q : Exit → St → Prop) (σ : St) : Prop := ∀ a w, C c N σ a w → wpList P ops (wQ c N Q) rest a w
def AOp (P : Program) (c : Ctx) (N : Nat) (o : Oper) (σ : St) (Φ : St → Prop) : Prop := ∀ a w, C c N σ a w → o.wp P a w (fun a' w' => ∃ σ', C c N σ' a' w' ∧ Φ σ') (fun _ _ _ => False)
def thenQ (K : St → Prop) (Q : Exit → St → Prop) : Exit → St → Prop
  | .normal, σ => K σ
  | e, σ => Q e σ
def inQ (id : Nat) (Q : Exit → St → Prop) : Exit → St → Prop
  | .exit id', σ => bif Nat.beq id' id then Q .normal σ else Q (.exit id') σ
  | e, σ => Q e σ
section
variable {P : Program} {c : Ctx} {N : Nat} {Q : Exit → St → Prop} {σ : St}
theorem awp_mono {x : Code} {Q' : Exit → St → Prop} (hq : ∀ e σ, Q e σ → Q' e σ) (h : awp P c N x Q σ) : awp P c N x Q' σ :=
  fun a w hc => wp_mono (h a w hc) fun e a w ⟨σ, hσ, hQ⟩ => ⟨σ, hσ, hq e σ hQ⟩
theorem qd3 {x : Code} {σ' : St} (hs : ∀ a w, C c N σ a w → C c N σ' a w) (h : awp P c N x Q σ') : awp P c N x Q σ :=
  fun a w hc => h a w (hs a w hc)
theorem qaB {ops : Array Oper} {rest : List Oper} {σ' : St} (hs : ∀ a w, C c N σ a w → C c N σ' a w) (h : awps P c N ops rest Q σ') : awps P c N ops rest Q σ :=
  fun a w hc => h a w (hs a w hc)
theorem qr (h : Q .normal σ) : awp P c N .skip Q σ := fun _ _ hc => wp_skip ⟨σ, hc, h⟩
theorem qo (h : Q .ret σ) : awp P c N .ret Q σ := fun _ _ hc => wp_ret ⟨σ, hc, h⟩
theorem qQ {id : Nat} (h : Q (.exit id) σ) : awp P c N (.exit id) Q σ := fun _ _ hc => wp_exit ⟨σ, hc, h⟩
theorem qd {x y : Code} (h : awp P c N x (thenQ (awp P c N y Q) Q) σ) : awp P c N (.seq x y) Q σ :=
  fun a w hc => wp_seq (wp_mono (h a w hc) fun e a' w' ⟨σ', hσ, hQ⟩ => by
    cases e with
    | normal => exact hQ a' w' hσ
    | exit id => exact ⟨σ', hσ, hQ⟩
    | goto l => exact ⟨σ', hσ, hQ⟩
    | ret => exact ⟨σ', hσ, hQ⟩
    | panic ch => exact ⟨σ', hσ, hQ⟩
    | outgrown => exact ⟨σ', hσ, hQ⟩)
theorem qv {id : Nat} {x : Code} (h : awp P c N x (inQ id Q) σ) : awp P c N (.block id x) Q σ :=
  fun a w hc => wp_block (wp_mono (h a w hc) fun e a' w' ⟨σ', hσ, hQ⟩ => by
    cases e with
    | normal => exact ⟨σ', hσ, hQ⟩
    | exit id' =>
      simp only [inQ] at hQ
      simp only [Exit.inBlock]
      by_cases he : id' = id
      · rw [if_pos he]; subst he
        simp only [Nat.beq_self_eq_true', cond_true] at hQ
        exact ⟨σ', hσ, hQ⟩
      · rw [if_neg he]
        have hb : Nat.beq id' id = false := by
          cases hb : Nat.beq id' id with
          | false => rfl
          | true => exact absurd (Nat.eq_of_beq_eq_true hb) he
        simp only [hb, cond_false] at hQ
        exact ⟨σ', hσ, hQ⟩
    | goto l => exact ⟨σ', hσ, hQ⟩
    | ret => exact ⟨σ', hσ, hQ⟩
    | panic ch => exact ⟨σ', hσ, hQ⟩
    | outgrown => exact ⟨σ', hσ, hQ⟩)
def ev (T : List (Nat × AV)) : Operand → Option AV
  | .tmp t => lk T t
  | .const v => some (.imm v)
  | .func f => some (.fn f [])
  | .global _ => none
theorem qaF {a : Act} {w : World} {ρ : Nat → Value} {S : Bool → Nat → Prop} (h : Conc c N σ a w ρ S) {x : Operand} {v : AV} (hx : ev σ.T x = some v) : Rep w ρ S σ.U v (a.eval x) := by
  cases x with
  | tmp t => exact h.T t v hx
  | const k => simp only [ev, Option.some.injEq] at hx; subst hx; simp [Rep, Act.eval]
  | func f => simp only [ev, Option.some.injEq] at hx; subst hx; simp [Rep, RepL, Act.eval]
  | global g => simp [ev] at hx
theorem qq {x : Operand} {y z : Code} {b : Bool} (hx : ev σ.T x = some (.imm (.bool b))) (ht : b = true → awp P c N y Q σ) (hf : b = false → awp P c N z Q σ) : awp P c N (.cond x y z) Q σ := by
  rintro a w ⟨ρ, S, hc⟩
  have h := qaF hc hx
  simp only [Rep] at h
  exact wp_cond_split h (fun hb => ht hb a w ⟨ρ, S, hc⟩) (fun hb => hf hb a w ⟨ρ, S, hc⟩)
theorem qaN {x : Operand} {y z : Code} (hx : ev σ.T x = some (.imm (.bool true))) (h : awp P c N y Q σ) : awp P c N (.cond x y z) Q σ := qq hx (fun _ => h) (fun h => by cases h)
theorem qab {x : Operand} {y z : Code} (hx : ev σ.T x = some (.imm (.bool false))) (h : awp P c N z Q σ) : awp P c N (.cond x y z) Q σ := qq hx (fun h => by cases h) (fun _ => h)
theorem awp_loop (I : Nat → St → Prop) {x : Code} (n : Nat) (h0 : I n σ) (hr : ∀ n σ, I n σ → awp P c N x (thenQ (fun σ' => ∃ m, m < n ∧ I m σ') Q) σ) : awp P c N (.loop x) Q σ := by
  intro a w hc
  refine wp_loop_rounds (n + 1) ?_
  have key : ∀ n m σ a w, m ≤ n → I m σ → C c N σ a w → Code.rounds P x (wQ c N Q) (n + 1) a w := by
    intro n
    induction n with
    | zero =>
      intro m σ a w hm hI hc
      refine wp_mono (hr m σ hI a w hc) fun e a' w' ⟨σ', hσ, hQ⟩ => ?_
      cases e with
      | normal => obtain ⟨k, hk, _⟩ := hQ; omega
      | exit id => exact ⟨σ', hσ, hQ⟩
      | goto l => exact ⟨σ', hσ, hQ⟩
      | ret => exact ⟨σ', hσ, hQ⟩
      | panic ch => exact ⟨σ', hσ, hQ⟩
      | outgrown => exact ⟨σ', hσ, hQ⟩
    | succ n ih =>
      intro m σ a w hm hI hc
      refine wp_mono (hr m σ hI a w hc) fun e a' w' ⟨σ', hσ, hQ⟩ => ?_
      cases e with
      | normal => obtain ⟨k, hk, hI'⟩ := hQ; exact ih k σ' a' w' (by omega) hI' hσ
      | exit id => exact ⟨σ', hσ, hQ⟩
      | goto l => exact ⟨σ', hσ, hQ⟩
      | ret => exact ⟨σ', hσ, hQ⟩
      | panic ch => exact ⟨σ', hσ, hQ⟩
      | outgrown => exact ⟨σ', hσ, hQ⟩
  exact key n n σ a w (Nat.le_refl _) h0 hc
def Sub (c : Ctx) (N : Nat) (σ σ' : St) : Prop := ∀ a w, C c N σ a w → C c N σ' a w
theorem q6 {x : Code} (n : Nat) (p : Nat → Prop) (F : Nat → St) (hp : p 0) (h0 : Sub c N σ (F 0)) (hr : ∀ k, k ≤ n → p k → awp P c N x (thenQ (fun σ' => k < n ∧ p (k + 1) ∧ Sub c N σ' (F (k + 1))) Q) (F k)) : awp P c N (.loop x) Q σ := by
  refine awp_loop (fun m σ' => ∃ k, k ≤ n ∧ p k ∧ m = n - k ∧ Sub c N σ' (F k)) n ⟨0, Nat.zero_le _, hp, rfl, h0⟩ ?_
  rintro m σ' ⟨k, hk, hpk, rfl, hs⟩
  refine qd3 hs (awp_mono ?_ (hr k hk hpk))
  intro e σ2 hQ
  cases e with
  | normal => exact ⟨n - (k + 1), by have := hQ.1; omega, k + 1, by have := hQ.1; omega, hQ.2.1, rfl, hQ.2.2⟩
  | exit id => exact hQ
  | goto l => exact hQ
  | ret => exact hQ
  | panic ch => exact hQ
  | outgrown => exact hQ
theorem qdq {α : Type} {x : Code} (n : Nat) (p : Nat → α → Prop) (F : Nat → α → St) (a0 : α) (hp : p 0 a0) (h0 : Sub c N σ (F 0 a0)) (hr : ∀ k a, k ≤ n → p k a → awp P c N x (thenQ (fun σ' => k < n ∧ ∃ a', p (k + 1) a' ∧ Sub c N σ' (F (k + 1) a')) Q) (F k a)) : awp P c N (.loop x) Q σ := by
  refine awp_loop (fun m σ' => ∃ k a, k ≤ n ∧ p k a ∧ m = n - k ∧ Sub c N σ' (F k a)) n ⟨0, a0, Nat.zero_le _, hp, rfl, h0⟩ ?_
  rintro m σ' ⟨k, a, hk, hpk, rfl, hs⟩
  refine qd3 hs (awp_mono ?_ (hr k a hk hpk))
  intro e σ2 hQ
  cases e with
  | normal => obtain ⟨h1, a', h2, h3⟩ := hQ; exact ⟨n - (k + 1), by omega, k + 1, a', by omega, h2, rfl, h3⟩
  | exit id => exact hQ
  | goto l => exact hQ
  | ret => exact hQ
  | panic ch => exact hQ
  | outgrown => exact hQ
theorem qb {id : Nat} {l : List Oper} (h : awps P c N l.toArray l Q σ) : awp P c N (.region id l.toArray false) Q σ :=
  fun a w hc => wp_region_lit (h a w hc)
theorem qc {ops : Array Oper} (h : Q .normal σ) : awps P c N ops [] Q σ := fun _ _ hc => wpList_nil ⟨σ, hc, h⟩
theorem Oper.wp_weaken {o : Oper} {a : Act} {w : World} {K K' : Act → World → Prop} {Q' : Exit → Act → World → Prop} (h : ∀ a w, K a w → K' a w)
    (hh : o.wp P a w K (fun _ _ _ => False)) : o.wp P a w K' Q' := by
  unfold Oper.wp at *
  generalize (execOp a.eval o).run P w = r at *
  cases r with
  | ok n w' =>
    cases n <;> simp only [Oper.upon] at hh ⊢ <;>
      first
        | exact h _ _ hh
        | exact Calls.mono hh (fun e w'' he => by cases e <;> first | exact h _ _ he | exact he.elim | (obtain ⟨_, _, hf⟩ := he; exact hf.elim))
        | exact Rows.mono hh (fun _ _ he => h _ _ he)
        | exact hh.elim
  | halt x w' => cases x <;> simp only [Oper.upon] at hh ⊢
theorem qdx {ops : Array Oper} {o : Oper} {rest : List Oper} (hg : o.guard = none) (h : AOp P c N o σ (fun σ' => awps P c N ops rest Q σ')) : awps P c N ops (o :: rest) Q σ :=
  fun a w hc => wpList_plain hg fun _ hK => Oper.wp_weaken (fun a' w' ⟨σ', hσ, hR⟩ => hK a' w' (hR a' w' hσ)) (h a w hc)
def St.put (σ : St) (dst : Option Nat) (v : AV) : St :=
  match dst with
  | some d => ⟨(d, v) :: σ.T, σ.O⟩
  | none => σ
def St.add (σ : St) (dst : Option Nat) (v : AV) (new : List (Nat × Ob)) : St :=
  match dst with
  | some d => ⟨(d, v) :: σ.T, new ++ σ.O⟩
  | none => ⟨σ.T, new ++ σ.O⟩
theorem Nat.beq_eq_false {s t : Nat} (h : ¬ s = t) : Nat.beq s t = false := by
  cases hb : Nat.beq s t with
  | false => rfl
  | true => exact absurd (Nat.eq_of_beq_eq_true hb) h
theorem qcd (s t : Nat) (v : AV) (T : List (Nat × AV)) : lk ((s, v) :: T) t = if s = t then some v else lk T t := by
  simp only [lk]
  by_cases h : s = t
  · subst h; simp
  · have : Nat.beq s t = false := Nat.beq_eq_false h
    rw [this, if_neg h]; rfl
theorem qa3 (s t : Nat) (v : Ob) (T : List (Nat × Ob)) : ok ((s, v) :: T) t = if s = t then some v else ok T t := by
  simp only [ok]
  by_cases h : s = t
  · subst h; simp
  · have : Nat.beq s t = false := Nat.beq_eq_false h
    rw [this, if_neg h]; rfl
theorem getD_put (a : Act) (d t : Nat) (x : Value) (hd : d < a.tmps.size) : (a.put (some d) x).tmps.getD t undef = if d = t then x else a.tmps.getD t undef := by
  simp only [Act.put]
  by_cases h : d = t
  · subst h
    simp [Array.getD_eq_getD_getElem?, hd]
  · simp [Array.getD_eq_getD_getElem?, Array.getElem?_setIfInBounds, h]
theorem Conc.put {a : Act} {w : World} {ρ : Nat → Value} {S : Bool → Nat → Prop} (h : Conc c N σ a w ρ S) {dst : Option Nat} {v : AV} {x : Value} (hd : ∀ d, dst = some d → d < N) (hv : Rep w ρ S σ.U v x) : Conc c N (σ.put dst v) (a.put dst x) w ρ S := by
  cases dst with
  | none => exact h
  | some d =>
    have hdN : d < a.tmps.size := by rw [h.tm]; exact hd d rfl
    refine { h with tm := ?_, df := h.df, T := ?_ }
    · simp [Act.put, h.tm]
    · intro t u ht
      simp only [St.put, qcd] at ht
      rw [getD_put a d t x hdN]
      split at ht
      · rename_i he; rw [if_pos he]; simp only [Option.some.injEq] at ht; subst ht; exact hv
      · rename_i he; rw [if_neg he]; exact h.T t u ht
theorem awps_skip {ops : Array Oper} {o : Oper} {rest : List Oper} {j t : Nat} {b b' : Bool} (hg : o.guard = some (j, b)) (hj : (ops[j]?).bind (·.dst) = some t) (ht : lk σ.T t = some (.imm (.bool b'))) (hb : b' ≠ b) (hd : ∀ d, o.dst = some d → d < N) (htN : t < N)
    (h : awps P c N ops rest Q (σ.put o.dst (.imm undef))) : awps P c N ops (o :: rest) Q σ := by
  rintro a w ⟨ρ, S, hc⟩
  have h1 := hc.T t _ ht
  simp only [Rep] at h1
  have h2 : a.tmps[t]? = some (.bool b') := by
    have hlt : t < a.tmps.size := by rw [hc.tm]; exact htN
    rw [Array.getD_eq_getD_getElem?] at h1
    rw [Array.getElem?_eq_getElem hlt] at h1 ⊢
    simpa using h1
  have hy : yielded ops a.tmps j = some b' := by
    simp [yielded, hj, h2]
  unfold wpList
  rw [if_neg]
  · exact h _ _ ⟨ρ, S, hc.put hd (by simp [Rep])⟩
  · simp only [Region.wanted, hg, hy]
    simpa using hb
theorem awps_skipu {ops : Array Oper} {o : Oper} {rest : List Oper} {j t : Nat} {b : Bool} (hg : o.guard = some (j, b)) (hj : (ops[j]?).bind (·.dst) = some t) (ht : lk σ.T t = some (.imm undef)) (hd : ∀ d, o.dst = some d → d < N) (htN : t < N)
    (h : awps P c N ops rest Q (σ.put o.dst (.imm undef))) : awps P c N ops (o :: rest) Q σ := by
  rintro a w ⟨ρ, S, hc⟩
  have h1 := hc.T t _ ht
  simp only [Rep] at h1
  have h2 : a.tmps[t]? = some undef := by
    have hlt : t < a.tmps.size := by rw [hc.tm]; exact htN
    rw [Array.getD_eq_getD_getElem?] at h1
    rw [Array.getElem?_eq_getElem hlt] at h1 ⊢
    simpa using h1
  have hy : yielded ops a.tmps j = none := by
    simp [yielded, hj, h2, undef]
  unfold wpList
  rw [if_neg]
  · exact h _ _ ⟨ρ, S, hc.put hd (by simp [Rep])⟩
  · simp only [Region.wanted, hg, hy]
    simp
theorem awps_want {ops : Array Oper} {o : Oper} {rest : List Oper} {j t : Nat} {b : Bool} (hg : o.guard = some (j, b)) (hj : (ops[j]?).bind (·.dst) = some t) (ht : lk σ.T t = some (.imm (.bool b))) (htN : t < N)
    (h : AOp P c N o σ (fun σ' => awps P c N ops rest Q σ')) : awps P c N ops (o :: rest) Q σ := by
  rintro a w ⟨ρ, S, hc⟩
  have h1 := hc.T t _ ht
  simp only [Rep] at h1
  have h2 : a.tmps[t]? = some (.bool b) := by
    have hlt : t < a.tmps.size := by rw [hc.tm]; exact htN
    rw [Array.getD_eq_getD_getElem?] at h1
    rw [Array.getElem?_eq_getElem hlt] at h1 ⊢
    simpa using h1
  have hy : yielded ops a.tmps j = some b := by
    simp [yielded, hj, h2]
  unfold wpList
  rw [if_pos]
  · exact .inl (Oper.wp_weaken (fun a' w' ⟨σ', hσ, hR⟩ => hR a' w' hσ) (h a w ⟨ρ, S, hc⟩))
  · simp [Region.wanted, hg, hy]
end
end Go.Proofs.YtpgceiijoedppaaGreat

namespace Go.Proofs.YtpgceiijoedppaaGreat
open Go
def Stp (P : Program) (c : Ctx) (N : Nat) (o : Oper) (σ : St) (need : List Nat) (v : AV) (new : List (Nat × Ob)) : Prop :=
  (∀ d, o.dst = some d → d < N) → ∀ σ' : St, (∀ x ∈ o.op.operands, ∀ u, ev σ.T x = some u → ev σ'.T x = some u) → (∀ l ∈ need, ∀ ob, ok σ.O l = some ob → ok σ'.O l = some ob) → (∀ p ∈ new, ok σ'.O p.1 = none) →
    AOp P c N o σ' (fun σ2 => σ2 = σ'.add o.dst v new)
section
variable {P : Program} {c : Ctx} {N : Nat} {Q : Exit → St → Prop} {σ : St} {o : Oper}
theorem awps_stp0 {ops : Array Oper} {rest : List Oper} {T : List (Nat × AV)} {O : List (Nat × Ob)} {need : List Nat} {v : AV} {d : Nat} (hg : o.guard = none) (hd : o.dst = some d) (hN : d < N)
    (h : Stp P c N o ⟨T, O⟩ need v []) (K : awps P c N ops rest Q ⟨(d, v) :: T, O⟩) : awps P c N ops (o :: rest) Q ⟨T, O⟩ := by
  refine qdx hg fun a w hc => wp_mono' ?_ (h (by intro e he; rw [hd] at he; cases he; exact hN) ⟨T, O⟩ (fun _ _ _ h => h) (fun _ _ _ h => h) (by simp) a w hc)
  rintro a w ⟨σ2, h2, rfl⟩
  refine ⟨_, h2, ?_⟩
  simpa [St.add, hd] using K
where
  wp_mono' {o : Oper} {a : Act} {w : World} {K K' : Act → World → Prop} (h : ∀ a w, K a w → K' a w) (hh : o.wp P a w K (fun _ _ _ => False)) : o.wp P a w K' (fun _ _ _ => False) := Oper.wp_mono h hh
theorem qy {ops : Array Oper} {rest : List Oper} {T : List (Nat × AV)} {O : List (Nat × Ob)} {need : List Nat} {v : AV} {d l : Nat} {ob : Ob} (hg : o.guard = none) (hd : o.dst = some d) (hN : d < N)
    (h : Stp P c N o ⟨T, O⟩ need v [(l, ob)]) (hl : ok O l = none) (K : awps P c N ops rest Q ⟨(d, v) :: T, (l, ob) :: O⟩) : awps P c N ops (o :: rest) Q ⟨T, O⟩ := by
  refine qdx hg fun a w hc => Oper.wp_mono ?_ (h (by intro e he; rw [hd] at he; cases he; exact hN) ⟨T, O⟩ (fun _ _ _ h => h) (fun _ _ _ h => h) (by simpa using hl) a w hc)
  rintro a w ⟨σ2, h2, rfl⟩
  refine ⟨_, h2, ?_⟩
  simpa [St.add, hd] using K
theorem qaH {need : List Nat} {v : AV} (h : ∀ σ' : St, (∀ x ∈ o.op.operands, ∀ u, ev σ.T x = some u → ev σ'.T x = some u) → (∀ l ∈ need, ∀ ob, ok σ.O l = some ob → ok σ'.O l = some ob) → ∀ a w ρ S, Conc c N σ' a w ρ S →
      ∃ x, (execOp a.eval o).run P w = .ok (.value x) w ∧ Rep w ρ S σ'.U v x) : Stp P c N o σ need v [] := by
  rintro hd σ' hx hl - a w ⟨ρ, S, hc⟩
  obtain ⟨x, hr, hv⟩ := h σ' hx hl a w ρ S hc
  unfold Oper.wp
  rw [hr]
  refine ⟨_, ⟨ρ, S, hc.put hd hv⟩, ?_⟩
  cases o.dst <;> simp [St.put, St.add]
theorem qk {x : Operand} {v : AV} (ho : o.op = .move x ∨ o.op = .assign x) (hx : ev σ.T x = some v) : Stp P c N o σ [] v [] := by
  refine qaH fun σ' h1 _ a w ρ S hc => ⟨a.eval x, ?_, ?_⟩
  · rcases ho with ho | ho <;> simp only [execOp, ho] <;> rfl
  · exact qaF hc (h1 x (by rcases ho with ho | ho <;> simp [ho, Op.operands]) v hx)
theorem qg {x y z : Operand} {b : Bool} {v : AV} (ho : o.op = .pick x y z) (hx : ev σ.T x = some (.imm (.bool b))) (hv : (if b then ev σ.T y else ev σ.T z) = some v) : Stp P c N o σ [] v [] := by
  refine qaH fun σ' h1 _ a w ρ S hc => ⟨a.eval (if b then y else z), ?_, ?_⟩
  · have hx' := qaF hc (h1 x (by simp [ho, Op.operands]) _ hx)
    simp only [Rep] at hx'
    simp only [execOp, ho, hx']
    cases b <;> rfl
  · cases b
    · exact qaF hc (h1 z (by simp [ho, Op.operands]) v (by simpa using hv))
    · exact qaF hc (h1 y (by simp [ho, Op.operands]) v (by simpa using hv))
def aggB : TypeDesc → Bool
  | .struct _ | .array _ _ => true
  | _ => false
def tfB (P : Program) (t : TypeId) (b : Bool) (n : Nat) : Bool :=
  match P.underlying t, P.info? t with
  | some d, some i => (aggB d == b) && (i.size == n) && (b || n == 1)
  | _, _ => false
def foB (P : Program) (s : TypeId) (i k : Nat) : Bool :=
  match P.underlying s with
  | some (.struct fs) => match fs[i]? with
    | some f => (f.offset == k) && (match P.info? f.type with | some j => j.size != 0 | none => false)
    | none => false
  | _ => false
def slB (P : Program) (t e : TypeId) (k : Nat) : Bool :=
  match P.underlying t, P.info? e with
  | some (.slice e'), some i => (e' == e) && (i.size == k)
  | _, _ => false
theorem tf_spec {t : TypeId} {b : Bool} {n : Nat} (h : tfB P t b n = true) : ∃ d i, P.underlying t = some d ∧ P.info? t = some i ∧ aggB d = b ∧ i.size = n ∧ (b = true ∨ n = 1) := by
  unfold tfB at h
  split at h
  · rename_i d i h1 h2
    simp only [Bool.and_eq_true, Bool.or_eq_true, beq_iff_eq] at h
    exact ⟨d, i, h1, h2, h.1.1, h.1.2, h.2⟩
  · simp at h
theorem isAgg_run {t : TypeId} {d : TypeDesc} (hd : P.underlying t = some d) (w : World) : (isAgg t).run P w = .ok (aggB d) w := by
  unfold isAgg
  rw [Sem.run_bind, run_underlying hd w]
  cases d <;> rfl
theorem qcH (b off j : Nat) : (⟨b, off, none⟩ : Addr).add j = ⟨b, off + j, none⟩ := by unfold Addr.add; split <;> simp_all
def mkV (b : Bool) (xs : List Value) : Value := if b then .agg xs.toArray else xs.headD undef
theorem qcE {t : TypeId} {b : Bool} {n : Nat} (ht : tfB P t b n = true) (w : World) (g off : Nat) (xs : List Value) (hl : xs.length = n) (h : ∀ j v, xs[j]? = some v → w.cell? ⟨g, off + j, none⟩ = some v) :
    (loadVar t ⟨g, off, none⟩).run P w = .ok (mkV b xs) w := by
  obtain ⟨d, i, h1, h2, h3, h4, h5⟩ := tf_spec ht
  have hl' : (loadCells ⟨g, off, none⟩ xs.length).run P w = .ok xs.toArray w := run_loadCells_list (P := P) w ⟨g, off, none⟩ xs (fun j v hv => by rw [qcH]; exact h j v hv)
  cases b with
  | true => simp [loadVar, Sem.run_bind, isAgg_run h1, h3, sizeOf, typeInfo, h2, h4, ← hl, hl', mkV]
  | false =>
    have hn : n = 1 := by simpa using h5
    match xs, hl with
    | [x], _ =>
      have hc := h 0 x (by simp)
      simp only [Nat.add_zero] at hc
      simp only [loadVar, Sem.run_bind, isAgg_run h1, h3, load, mkV]
      simp [Sem.run, hc]
    | [], hl => simp at hl; omega
    | _ :: _ :: _, hl => simp at hl; omega
def mkA (b : Bool) (n : Nat) (cs : List AV) : Option AV :=
  if b then (if cs.length = n then some (.agg cs) else none) else cs.head?
theorem rep_mkA {w : World} {ρ : Nat → Value} {S : Bool → Nat → Prop} {U : Nat → Prop} {b : Bool} {n : Nat} {cs : List AV} {xs : List Value} {v : AV} (h : mkA b n cs = some v) (h1 : ∀ y ∈ xs, y.oneCell' = true) (hr : RepL w ρ S U cs xs) : Rep w ρ S U v (mkV b xs) := by
  cases b with
  | true =>
    simp only [mkA, if_true] at h
    split at h
    · simp only [Option.some.injEq] at h; subst h
      simp only [Rep, mkV, if_true]
      exact ⟨xs, rfl, h1, hr⟩
    · simp at h
  | false =>
    simp only [mkA] at h
    cases cs with
    | nil => simp at h
    | cons u us =>
      simp only [List.head?_cons, Bool.false_eq_true, if_false, Option.some.injEq] at h; subst h
      simp only [RepL] at hr
      obtain ⟨y, ys, rfl, hy, _⟩ := hr
      simpa [mkV] using hy
theorem qdp {w : World} {b : Nat} {xs : List Value} {ty : TypeId} {fr : Nat × Nat} (h : w.heap[b]? = some (.cells xs.toArray ty fr)) (j : Nat) : w.cell? ⟨b, j, none⟩ = xs[j]? := by
  simp [World.cell?, h]
theorem take_get {α : Type} {xs : List α} {off n j : Nat} {v : α} (h : ((xs.drop off).take n)[j]? = some v) : xs[off + j]? = some v := by
  rw [List.getElem?_take] at h
  split at h
  · rwa [List.getElem?_drop] at h
  · simp at h
theorem eval_ptr {a : Act} {w : World} {ρ : Nat → Value} {S : Bool → Nat → Prop} {x : Operand} {l off : Nat} (hc : Conc c N σ a w ρ S) (hx : ev σ.T x = some (.ptr l off)) : ∃ b, blk (ρ l) = some b ∧ a.eval x = .pointer (some ⟨b, off, none⟩) := by
  have h := qaF hc hx
  simp only [Rep] at h
  exact h.2
theorem row_cells {w : World} {e : TypeId} {k n b : Nat} {v : Value} {xs : List Value} (h : w.ownsRow 0 e k v n xs) (hb : blk v = some b) : ∃ cap cur, v = .slice (some ⟨b, 0, none⟩) n cap ∧ w.heap[b]? = some (.cells cur e (0, 0)) ∧ n ≤ cap ∧ cap ≤ maxLen ∧ cur.size = cap * k ∧ cur.toList.take (n * k) = xs ∧ xs.length = n * k := by
  obtain ⟨h1, h2⟩ := h
  rcases h2 with ⟨rfl, _⟩ | ⟨g, cap, cur, rfl, _, hh, h3, h4, h5, h6⟩
  · simp [blk] at hb
  · simp only [blk, Option.some.injEq] at hb
    subst hb
    exact ⟨cap, cur, rfl, hh, h3, h4, h5, h6, h1⟩
def Ob.cells : Ob → List AV
  | .box cs => cs
  | .row _ _ cs => cs
  | .rowd _ _ f es => lift f es.flatten
  | _ => []
theorem qcq {w : World} {e : TypeId} {k n b : Nat} {v : Value} {xs : List Value} (h1 : w.ownsRow 0 e k v n xs) (hb : blk v = some b) (j : Nat) (u : Value) (hv : xs[j]? = some u) : w.cell? ⟨b, j, none⟩ = some u := by
  obtain ⟨cap, cur, _, hh, _, _, _, h6, _⟩ := row_cells h1 hb
  have : w.heap[b]? = some (.cells cur.toList.toArray e (0, 0)) := by simpa using hh
  rw [qdp this]
  rw [← h6, List.getElem?_take] at hv
  split at hv
  · exact hv
  · simp at hv
theorem ob_cells {w : World} {ρ : Nat → Value} {S : Bool → Nat → Prop} {U : Nat → Prop} {l b : Nat} {ob : Ob} (h : ObOk w ρ S U l ob) (hb : blk (ρ l) = some b) (hm : ob.cells ≠ []) :
    ∃ xs : List Value, RepL w ρ S U ob.cells xs ∧ (∀ y ∈ xs, y.oneCell' = true) ∧ ∀ (j : Nat) (v : Value), xs[j]? = some v → w.cell? ⟨b, j, none⟩ = some v := by
  cases ob with
  | box cs =>
    obtain ⟨b', ty, xs, h1, h2, h3, h4⟩ := h
    rw [h1] at hb; simp only [blk, Option.some.injEq] at hb; subst hb
    exact ⟨xs, h4, h3, fun j v hv => by rw [qdp h2]; exact hv⟩
  | row e k cs =>
    obtain ⟨n, xs, h1, h2, h3⟩ := h
    exact ⟨xs, h3, h2, qcq h1 hb⟩
  | rowd e k f es =>
    obtain ⟨h0, xs, h1, h2, h3⟩ := h
    exact ⟨xs, h3, h2, qcq h1 hb⟩
  | mp P k ks => simp [Ob.cells] at hm
  | dead => simp [Ob.cells] at hm
  | arr e k f es => simp [Ob.cells] at hm
  | mx it P k kvs cur => simp [Ob.cells] at hm
theorem stp_load_box {x : Operand} {t : TypeId} {l off n : Nat} {b : Bool} {ob : Ob} {v : AV} (ho : o.op = .load t x) (ht : tfB P t b n = true) (hx : ev σ.T x = some (.ptr l off)) (hl : ok σ.O l = some ob)
    (hn : off + n ≤ ob.cells.length) (h0 : 0 < n) (hv : mkA b n ((ob.cells.drop off).take n) = some v) : Stp P c N o σ [l] v [] := by
  refine qaH fun σ' h1 h2 a w ρ S hc => ?_
  obtain ⟨g, hg, hx'⟩ := eval_ptr hc (h1 x (by simp [ho, Op.operands]) _ hx)
  have hob := hc.O l ob (h2 l (by simp) _ hl)
  obtain ⟨xs, hr, h3, hcell⟩ := ob_cells hob hg (by intro h; rw [h] at hn; simp at hn; omega)
  have hlen := hr.length
  refine ⟨mkV b ((xs.drop off).take n), ?_, rep_mkA hv (fun y hy => h3 y (List.mem_of_mem_drop (List.mem_of_mem_take hy))) ((hr.drop off).take n)⟩
  simp only [execOp, ho, hx', Instr.loadAt, Instr.sureAddr]
  have := qcE (P := P) ht w g off ((xs.drop off).take n) (by simp; omega) (fun j v hv => hcell _ _ (take_get hv))
  simp [Sem.run_bind, this]
theorem repCs_list {w : World} {ρ : Nat → Value} {S : Bool → Nat → Prop} {U : Nat → Prop} {f : Bool} {b : Nat} : ∀ {off : Nat} {ds : List D}, qbE w f (S f) b off ds →
    ∃ xs : List Value, RepL w ρ S U (lift f ds) xs ∧ (∀ y ∈ xs, y.oneCell' = true) ∧ ∀ (j : Nat) (v : Value), xs[j]? = some v → w.cell? ⟨b, off + j, none⟩ = some v
  | off, [], _ => ⟨[], by simp [lift, RepL], by simp, by simp⟩
  | off, d :: ds, h => by
    simp only [qbE] at h
    obtain ⟨⟨v, hv, h1, hd⟩, h⟩ := h
    obtain ⟨xs, h2, h3, h4⟩ := repCs_list (ρ := ρ) (U := U) h
    refine ⟨v :: xs, ?_, ?_, ?_⟩
    · simp only [lift, List.map_cons, RepL]
      refine ⟨v, xs, rfl, ?_, h2⟩
      cases d with
      | imm u => simpa [D.av, Rep, RepD] using hd
      | sl k es => simpa [D.av, Rep] using hd
    · intro y hy
      rcases List.mem_cons.1 hy with rfl | hy
      · exact h1
      · exact h3 y hy
    · intro j u hu
      cases j with
      | zero => simp only [List.getElem?_cons_zero, Option.some.injEq] at hu; subst hu; simpa using hv
      | succ j => have := h4 j u (by simpa using hu); rw [show off + (j + 1) = off + 1 + j from by omega]; exact this
theorem stp_load_elp {x : Operand} {t : TypeId} {n : Nat} {b f : Bool} {ds : List D} {v : AV} (ho : o.op = .load t x) (ht : tfB P t b n = true) (hx : ev σ.T x = some (.elp f ds))
    (hn : n ≤ ds.length) (hv : mkA b n (lift f (ds.take n)) = some v) : Stp P c N o σ [] v [] := by
  refine qaH fun σ' h1 h2 a w ρ S hc => ?_
  have h := qaF hc (h1 x (by simp [ho, Op.operands]) _ hx)
  simp only [Rep] at h
  obtain ⟨g, off, hx', hS, hcs⟩ := h
  obtain ⟨xs, hr, h3, hcell⟩ := repCs_list (ρ := ρ) (U := σ'.U) hcs
  have hlen := hr.length
  simp only [lift, List.length_map] at hlen
  refine ⟨mkV b (xs.take n), ?_, rep_mkA hv (fun y hy => h3 y (List.mem_of_mem_take hy)) (by have := hr.take n; simpa [lift, List.map_take] using this)⟩
  simp only [execOp, ho, hx', Instr.loadAt, Instr.sureAddr]
  have := qcE (P := P) ht w g off (xs.take n) (by simp; omega) (fun j v hv => by
    rw [List.getElem?_take] at hv
    split at hv
    · exact hcell _ _ hv
    · simp at hv)
  simp [Sem.run_bind, this]
theorem fo_spec {s : TypeId} {i k : Nat} (h : foB P s i k = true) : ∃ fs f j, P.underlying s = some (.struct fs) ∧ fs[i]? = some f ∧ f.offset = k ∧ P.info? f.type = some j ∧ j.size ≠ 0 := by
  unfold foB at h
  split at h
  · rename_i fs h1
    split at h
    · rename_i f h2
      simp only [Bool.and_eq_true, beq_iff_eq] at h
      obtain ⟨h3, h4⟩ := h
      split at h4
      · rename_i j h5; exact ⟨fs, f, j, h1, h2, h3, h5, by simpa using h4⟩
      · simp at h4
    · simp at h
  · simp at h
theorem run_fieldAt {s : TypeId} {i k : Nat} (h : foB P s i k = true) (w : World) (b off : Nat) : (Instr.fieldAt s (.pointer (some ⟨b, off, none⟩)) i).run P w = .ok (.pointer (some ⟨b, off + k, none⟩)) w := by
  obtain ⟨fs, f, j, h1, h2, h3, h4, h5⟩ := fo_spec h
  simp only [Instr.fieldAt, Sem.run_bind, run_underlying h1 w, Result.andThen_ok, h2, Instr.sureAddr, Sem.run_pure, fieldPlace, sizeOf, run_typeInfo w h4, if_neg h5, qcH, h3]
theorem qe {x : Operand} {s : TypeId} {i k l off : Nat} (ho : o.op = .fieldAddr s x i) (hf : foB P s i k = true) (hx : ev σ.T x = some (.ptr l off)) : Stp P c N o σ [] (.ptr l (off + k)) [] := by
  refine qaH fun σ' h1 h2 a w ρ S hc => ?_
  have h := qaF hc (h1 x (by simp [ho, Op.operands]) _ hx)
  simp only [Rep] at h
  obtain ⟨hU, g, hg, hx'⟩ := h
  refine ⟨.pointer (some ⟨g, off + k, none⟩), ?_, by simp only [Rep]; exact ⟨hU, g, hg, rfl⟩⟩
  simp only [execOp, ho, hx']
  simp [Sem.run_bind, run_fieldAt hf]
theorem repCs_drop {w : World} {F : Bool} {S : Nat → Prop} {b : Nat} : ∀ (k : Nat) {off : Nat} {ds : List D}, qbE w F S b off ds → qbE w F S b (off + k) (ds.drop k)
  | 0, off, ds, h => by simpa using h
  | k + 1, off, [], h => by simp [qbE]
  | k + 1, off, d :: ds, h => by
    simp only [qbE] at h
    have := repCs_drop k h.2
    rw [show off + (k + 1) = off + 1 + k from by omega]
    simpa using this
theorem qA {x : Operand} {s : TypeId} {i k : Nat} {f : Bool} {ds : List D} (ho : o.op = .fieldAddr s x i) (hf : foB P s i k = true) (hx : ev σ.T x = some (.elp f ds)) : Stp P c N o σ [] (.elp f (ds.drop k)) [] := by
  refine qaH fun σ' h1 h2 a w ρ S hc => ?_
  have h := qaF hc (h1 x (by simp [ho, Op.operands]) _ hx)
  simp only [Rep] at h
  obtain ⟨g, off, hx', hS, hcs⟩ := h
  refine ⟨.pointer (some ⟨g, off + k, none⟩), ?_, by simp only [Rep]; exact ⟨g, off + k, rfl, hS, repCs_drop k hcs⟩⟩
  simp only [execOp, ho, hx']
  simp [Sem.run_bind, run_fieldAt hf]
theorem repEs_get {w : World} {F : Bool} {S : Nat → Prop} {b k : Nat} : ∀ {off : Nat} {es : List (List D)} {i : Nat} {e : List D}, qch w F S b k off es → es[i]? = some e → e.length = k ∧ qbE w F S b (off + i * k) e
  | off, [], i, e, h, hi => by simp at hi
  | off, u :: es, 0, e, h, hi => by
    simp only [List.getElem?_cons_zero, Option.some.injEq] at hi; subst hi
    simp only [qch] at h
    simpa using h.1
  | off, u :: es, i + 1, e, h, hi => by
    simp only [qch] at h
    have := repEs_get h.2 (i := i) (e := e) (by simpa using hi)
    rw [show off + (i + 1) * k = off + k + i * k from by rw [Nat.add_mul]; omega]
    exact this
theorem qcK {t e : TypeId} {k : Nat} (h : slB P t e k = true) : ∃ i, P.underlying t = some (.slice e) ∧ P.info? e = some i ∧ i.size = k := by
  unfold slB at h
  split at h
  · rename_i e' i h1 h2
    simp only [Bool.and_eq_true, beq_iff_eq] at h
    obtain ⟨rfl, h3⟩ := h
    exact ⟨i, h1, h2, h3⟩
  · simp at h
theorem run_indexAt_sl {t e : TypeId} {k : Nat} (h : slB P t e k = true) (w : World) (b off n cap : Nat) (q : IntKind) (i : Int) (h0 : 0 ≤ i) (h1 : i < n) :
    (Instr.indexAt t (.slice (some ⟨b, off, none⟩) n cap) (.int q i)).run P w = .ok (.pointer (some ⟨b, off + i.toNat * k, none⟩)) w := by
  obtain ⟨j, h2, h3, h4⟩ := qcK h
  simp only [Instr.indexAt, Sem.run_bind, asIntOf, Sem.run_pure, Result.andThen_ok, run_underlying h2 w]
  rw [if_pos ⟨h0, h1⟩]
  simp [Sem.run_bind, sizeOf, run_typeInfo w h3, h4, qcH]
theorem qp {x y : Operand} {t e : TypeId} {k : Nat} {f : Bool} {es : List (List D)} {q : IntKind} {i : Int} {ds : List D} (ho : o.op = .indexAddr t x y) (ht : slB P t e k = true) (hx : ev σ.T x = some (.dat f k es)) (hy : ev σ.T y = some (.imm (.int q i)))
    (h0 : 0 ≤ i) (he : es[i.toNat]? = some ds) : Stp P c N o σ [] (.elp f ds) [] := by
  refine qaH fun σ' h1 h2 a w ρ S hc => ?_
  have h := qaF hc (h1 x (by simp [ho, Op.operands]) _ hx)
  have h' := qaF hc (h1 y (by simp [ho, Op.operands]) _ hy)
  simp only [Rep, RepD] at h h'
  obtain ⟨A, n, cap, hx', hn, _, _, hr⟩ := h
  have hlt : i.toNat < es.length := by
    rcases List.getElem?_eq_some_iff.1 he with ⟨h, _⟩; exact h
  rcases hr with hr | ⟨b, off, rfl, hS, _, hr⟩
  · omega
  · obtain ⟨_, hcs⟩ := repEs_get hr he
    refine ⟨.pointer (some ⟨b, off + i.toNat * k, none⟩), ?_, by simp only [Rep]; exact ⟨b, _, rfl, hS, hcs⟩⟩
    simp only [execOp, ho, hx', h']
    simp [Sem.run_bind, run_indexAt_sl ht w b off n cap q i h0 (by omega)]
theorem stp_indexAddr_row {x y : Operand} {t e : TypeId} {k l : Nat} {cs : List AV} {q : IntKind} {i : Int} (ho : o.op = .indexAddr t x y) (ht : slB P t e k = true) (hx : ev σ.T x = some (.row l)) (hl : ok σ.O l = some (.row e k cs)) (hy : ev σ.T y = some (.imm (.int q i)))
    (h0 : 0 ≤ i) (he : i.toNat * k + k ≤ cs.length) (hk : 0 < k) : Stp P c N o σ [l] (.ptr l (i.toNat * k)) [] := by
  refine qaH fun σ' h1 h2 a w ρ S hc => ?_
  have h := qaF hc (h1 x (by simp [ho, Op.operands]) _ hx)
  have h' := qaF hc (h1 y (by simp [ho, Op.operands]) _ hy)
  simp only [Rep] at h h'
  obtain ⟨n, xs, h3, h4, h5⟩ := hc.O l _ (h2 l (by simp) _ hl)
  have hlen := h5.length
  obtain ⟨hU, hx', _⟩ := h
  obtain ⟨h6, h7⟩ := h3
  rcases h7 with ⟨_, rfl⟩ | ⟨g, cap, cur, hv, _⟩
  · rw [Nat.zero_mul] at h6; omega
  · have hin : i < (n : Int) := by
      have : i.toNat * k + k ≤ n * k := by omega
      have : (i.toNat + 1) * k ≤ n * k := by rw [Nat.add_mul]; omega
      have := Nat.le_of_mul_le_mul_right this hk
      omega
    refine ⟨.pointer (some ⟨g, i.toNat * k, none⟩), ?_, by simp only [Rep]; exact ⟨hU, g, by rw [hv]; rfl, rfl⟩⟩
    rw [hv] at hx'
    simp only [execOp, ho, hx', h']
    simp [Sem.run_bind, run_indexAt_sl ht w g 0 n cap q i h0 hin]
theorem qc0 {x y : Operand} {t e : TypeId} {k l : Nat} {f : Bool} {es : List (List D)} {q : IntKind} {i : Int} (ho : o.op = .indexAddr t x y) (ht : slB P t e k = true) (hx : ev σ.T x = some (.row l)) (hl : ok σ.O l = some (.rowd e k f es)) (hy : ev σ.T y = some (.imm (.int q i)))
    (h0 : 0 ≤ i) (he : i.toNat < es.length) : Stp P c N o σ [l] (.ptr l (i.toNat * k)) [] := by
  refine qaH fun σ' h1 h2 a w ρ S hc => ?_
  have h := qaF hc (h1 x (by simp [ho, Op.operands]) _ hx)
  have h' := qaF hc (h1 y (by simp [ho, Op.operands]) _ hy)
  simp only [Rep] at h h'
  obtain ⟨_, xs, h3, h4, h5⟩ := hc.O l _ (h2 l (by simp) _ hl)
  obtain ⟨hU, hx', _⟩ := h
  obtain ⟨h6, h7⟩ := h3
  rcases h7 with ⟨_, h8⟩ | ⟨g, cap, cur, hv, _⟩
  · omega
  · refine ⟨.pointer (some ⟨g, i.toNat * k, none⟩), ?_, by simp only [Rep]; exact ⟨hU, g, by rw [hv]; rfl, rfl⟩⟩
    rw [hv] at hx'
    simp only [execOp, ho, hx', h']
    simp [Sem.run_bind, run_indexAt_sl ht w g 0 es.length cap q i h0 (by omega)]
theorem qay {x : Operand} {i : Nat} {vs : List AV} {v : AV} (ho : o.op = .extract x i) (hx : ev σ.T x = some (.tup vs)) (hv : vs[i]? = some v) : Stp P c N o σ [] v [] := by
  refine qaH fun σ' h1 h2 a w ρ S hc => ?_
  have h := qaF hc (h1 x (by simp [ho, Op.operands]) _ hx)
  simp only [Rep] at h
  obtain ⟨xs, hx', hr⟩ := h
  obtain ⟨y, hy, hv'⟩ := hr.get hv
  refine ⟨y, ?_, hv'⟩
  simp only [execOp, ho, hx', Instr.extract]
  simp [Sem.run_bind, hy]
theorem qcI {x : Operand} {l off : Nat} (ho : o.op = .nilCheck x) (hx : ev σ.T x = some (.ptr l off)) : Stp P c N o σ [] (.ptr l off) [] := by
  refine qaH fun σ' h1 h2 a w ρ S hc => ?_
  have h := qaF hc (h1 x (by simp [ho, Op.operands]) _ hx)
  have h' := h
  simp only [Rep] at h
  obtain ⟨hU, g, hg, hx'⟩ := h
  refine ⟨a.eval x, ?_, h'⟩
  simp only [execOp, ho, hx']
  rfl
theorem repL_evs {a : Act} {w : World} {ρ : Nat → Value} {S : Bool → Nat → Prop} {σ σ' : St} (hc : Conc c N σ' a w ρ S) : ∀ {xs : List Operand} {vs : List AV}, (∀ x ∈ xs, ∀ u, ev σ.T x = some u → ev σ'.T x = some u) → xs.map (ev σ.T) = vs.map some → RepL w ρ S σ'.U vs (xs.map a.eval)
  | [], [], _, _ => by simp [RepL]
  | [], _ :: _, _, h => by simp at h
  | _ :: _, [], _, h => by simp at h
  | x :: xs, v :: vs, h1, h => by
    simp only [List.map_cons, List.cons.injEq] at h
    simp only [List.map_cons, RepL]
    exact ⟨_, _, rfl, qaF hc (h1 x (by simp) v h.1), repL_evs hc (fun y hy => h1 y (by simp [hy])) h.2⟩
theorem qdL {g : FuncId} {xs : List Operand} {vs : List AV} (ho : o.op = .makeFunc (.func g) #[] xs.toArray) (hx : xs.map (ev σ.T) = vs.map some) : Stp P c N o σ [] (.fn g vs) [] := by
  refine qaH fun σ' h1 h2 a w ρ S hc => ?_; refine ⟨.func (.func g) #[] (xs.map a.eval).toArray, ?_, ?_⟩
  · simp only [execOp, ho, Instr.makeFunc]
    simp
  · simp only [Rep]
    exact ⟨_, rfl, repL_evs hc (fun x hx => h1 x (by simp [ho, Op.operands, hx])) hx⟩
end
end Go.Proofs.YtpgceiijoedppaaGreat

namespace Go.Proofs.YtpgceiijoedppaaGreat
open Go
section
variable {P : Program} {c : Ctx} {N : Nat} {Q : Exit → St → Prop} {σ : St} {o : Oper}
theorem Far.refl (W : Nat → Prop) (w : World) : Far W w w := ⟨rfl, rfl, rfl, Nat.le_refl _, fun _ _ _ => rfl, Nat.le_refl _⟩
theorem Far.trans {W : Nat → Prop} {w1 w2 w3 : World} (h : Far W w1 w2) (k : Far W w2 w3) : Far W w1 w3 :=
  ⟨k.os.trans h.os, k.tape.trans h.tape, k.output.trans h.output, Nat.le_trans h.size k.size, fun b hb hw => (k.block b (Nat.lt_of_lt_of_le hb h.size) hw).trans (h.block b hb hw), Nat.le_trans h.dr k.dr⟩
theorem Far.mono {W W' : Nat → Prop} {w1 w2 : World} (h : Far W w1 w2) (hW : ∀ b, b < w1.heap.size → W b → W' b) : Far W' w1 w2 :=
  ⟨h.os, h.tape, h.output, h.size, fun b hb hw => h.block b hb fun h' => hw (hW b hb h'), h.dr⟩
theorem Far.step {W W' : Nat → Prop} {w1 w2 w3 : World} (h : Far W w1 w2) (k : Far W' w2 w3) (hW : ∀ b, b < w1.heap.size → W' b → W b) : Far W w1 w3 :=
  ⟨k.os.trans h.os, k.tape.trans h.tape, k.output.trans h.output, Nat.le_trans h.size k.size, fun b hb hw => (k.block b (Nat.lt_of_lt_of_le hb h.size) (fun h' => hw (hW b hb h'))).trans (h.block b hb hw), Nat.le_trans h.dr k.dr⟩
theorem size_alloc' (w : World) (x : Obj) : (w.alloc x).heap.size = w.heap.size + 1 := by
  show (w.heap.push x).size = _
  simp
theorem Far.alloc (W : Nat → Prop) (w : World) (x : Obj) : Far W w (w.alloc x) :=
  ⟨rfl, rfl, rfl, by rw [size_alloc']; omega, fun b hb _ => heap_alloc_old w x hb, Nat.le_refl _⟩
theorem Far.drew (W : Nat → Prop) (w : World) : Far W w w.drew := ⟨rfl, rfl, rfl, Nat.le_refl _, fun _ _ _ => rfl, Nat.le_succ _⟩
theorem Conc.grow0 {a : Act} {w w' : World} {ρ : Nat → Value} {S : Bool → Nat → Prop} {W : Nat → Prop} (h : Conc c N σ a w ρ S) (hf : Far0 W w w') (hd : c.D → w.drawn ≤ w'.drawn) (hS : ∀ f b, S f b → ¬ W b) (hO : ∀ l ob b, ok σ.O l = some ob → ob.live → blk (ρ l) = some b → ¬ W b)
    (hW : ∀ b, b < c.w0.heap.size → W b → c.W b) : Conc c N σ a w' ρ S := by
  have hSw : ∀ f b, S f b → w'.heap[b]? = w.heap[b]? := fun f b hb => hf.block b (h.Sb f b hb) (hS f b hb)
  refine ⟨h.tm, h.df, fun t v ht => (h.T t v ht).mono (fun _ _ h => h) hSw (fun _ h => h) (fun _ _ => rfl), fun l ob hl => ?_, h.dj, h.dS, h.wr, fun l ob b h1 h2 h3 => Nat.lt_of_lt_of_le (h.lt l ob b h1 h2 h3) hf.size, h.SS, fun f b hb => Nat.lt_of_lt_of_le (h.Sb f b hb) hf.size, h.Sn, h.So, h.lo, h.fm.grow hf hd (fun f b h => ⟨f, h⟩) hSw (fun _ h => .inl h) hW⟩
  by_cases hv : ob.live
  · exact (h.O l ob hl).mono (fun _ _ h => h) hSw (fun _ h => h) (fun _ _ => rfl) (by simp [St.U, hl]) (fun b hb => hf.block b (h.lt l ob b hl hv hb) (hO l ob b hl hv hb))
  · cases ob <;> simp [Ob.live] at hv; trivial
theorem Conc.grow {a : Act} {w w' : World} {ρ : Nat → Value} {S : Bool → Nat → Prop} {W : Nat → Prop} (h : Conc c N σ a w ρ S) (hf : Far W w w') (hS : ∀ f b, S f b → ¬ W b) (hO : ∀ l ob b, ok σ.O l = some ob → ob.live → blk (ρ l) = some b → ¬ W b)
    (hW : ∀ b, b < c.w0.heap.size → W b → c.W b) : Conc c N σ a w' ρ S := h.grow0 hf.far0 (fun _ => hf.dr) hS hO hW
theorem U_cons {l : Nat} {ob : Ob} {T : List (Nat × AV)} {O : List (Nat × Ob)} (m : Nat) (h : St.U ⟨T, O⟩ m) : St.U ⟨T, (l, ob) :: O⟩ m := by
  simp only [St.U, qa3] at h ⊢
  split
  · rfl
  · exact h
def upd (ρ : Nat → Value) (l : Nat) (p : Value) : Nat → Value := fun m => if m = l then p else ρ m
theorem qb1 (ρ : Nat → Value) (l : Nat) (p : Value) : upd ρ l p l = p := by simp [upd]
theorem qbj {ρ : Nat → Value} {l m : Nat} {p : Value} (h : m ≠ l) : upd ρ l p m = ρ m := by simp [upd, h]
theorem Conc.addOb {T : List (Nat × AV)} {O : List (Nat × Ob)} {a : Act} {w : World} {ρ : Nat → Value} {S : Bool → Nat → Prop} (h : Conc c N ⟨T, O⟩ a w ρ S) {l : Nat} (hl : ok O l = none) {p : Value} {ob : Ob}
    (hb : ∀ b, blk p = some b → b < w.heap.size ∧ c.w0.heap.size ≤ b ∧ (∀ f, ¬ S f b) ∧ ∀ m om, ok O m = some om → om.live → blk (ρ m) ≠ some b)
    (hob : ObOk w (upd ρ l p) S (St.U ⟨T, (l, ob) :: O⟩) l ob) : Conc c N ⟨T, (l, ob) :: O⟩ a w (upd ρ l p) S := by
  have hne : ∀ m om, ok O m = some om → m ≠ l := fun m om hm e => by subst e; rw [hl] at hm; cases hm
  have hρ : ∀ m, St.U ⟨T, O⟩ m → upd ρ l p m = ρ m := fun m hm => qbj fun e => by subst e; simp [St.U, hl] at hm
  have hsp : ∀ m om, ok ((l, ob) :: O) m = some om → (m = l ∧ om = ob) ∨ (m ≠ l ∧ ok O m = some om) := fun m om hm => by
    rw [qa3] at hm
    split at hm
    · rename_i e; exact .inl ⟨e.symm, by simpa using hm.symm⟩
    · rename_i e; exact .inr ⟨fun e' => e e'.symm, hm⟩
  refine ⟨h.tm, h.df, fun t v ht => (h.T t v ht).mono (fun _ _ h => h) (fun _ _ _ => rfl) U_cons hρ, fun m om hm => ?_, fun m m' om om' b h1 h2 h3 h4 h5 h6 => ?_, fun m om b f h1 h2 h3 => ?_, fun m om b h1 h2 h3 => ?_, fun m om b h1 h2 h3 => ?_, h.SS, h.Sb, h.Sn, h.So, fun m hm => ?_, h.fm⟩
  · rcases hsp m om hm with ⟨rfl, rfl⟩ | ⟨hne', hm'⟩
    · exact hob
    · exact (h.O m om hm').mono (fun _ _ h => h) (fun _ _ _ => rfl) U_cons hρ (by simp [St.U, hm']) (fun _ _ => rfl)
  · rcases hsp m om h1 with ⟨e1, e2⟩ | ⟨n1, k1⟩ <;> rcases hsp m' om' h2 with ⟨e3, e4⟩ | ⟨n2, k2⟩
    · rw [e1, e3]
    · rw [e1, qb1] at h5; rw [qbj n2] at h6; exact absurd h6 ((hb b h5).2.2.2 m' om' k2 h4)
    · rw [e3, qb1] at h6; rw [qbj n1] at h5; exact absurd h5 ((hb b h6).2.2.2 m om k1 h3)
    · rw [qbj n1] at h5; rw [qbj n2] at h6; exact h.dj m m' om om' b k1 k2 h3 h4 h5 h6
  · rcases hsp m om h1 with ⟨rfl, rfl⟩ | ⟨n1, h1⟩
    · rw [qb1] at h3; exact (hb b h3).2.2.1 f
    · rw [qbj n1] at h3; exact h.dS m om b f h1 h2 h3
  · rcases hsp m om h1 with ⟨rfl, rfl⟩ | ⟨n1, h1⟩
    · rw [qb1] at h3; exact .inl (hb b h3).2.1
    · rw [qbj n1] at h3; exact h.wr m om b h1 h2 h3
  · rcases hsp m om h1 with ⟨rfl, rfl⟩ | ⟨n1, h1⟩
    · rw [qb1] at h3; exact (hb b h3).1
    · rw [qbj n1] at h3; exact h.lt m om b h1 h2 h3
  · obtain ⟨h1, h2⟩ := h.lo m hm
    have hne' : m ≠ l := fun e => by subst e; simp [hl] at h1
    refine ⟨?_, by rw [qbj hne']; exact h2⟩
    simp only [qa3]
    rw [if_neg (fun e => hne' e.symm)]; exact h1
theorem Conc.modOb {T : List (Nat × AV)} {O : List (Nat × Ob)} {a : Act} {w w' : World} {ρ : Nat → Value} {S : Bool → Nat → Prop} (h : Conc c N ⟨T, O⟩ a w ρ S) {l : Nat} {ob ob' : Ob} (hl : ok O l = some ob) (hv : ob.live)
    (hf : Far (fun b => blk (ρ l) = some b) w w') (hob : ObOk w' ρ S (St.U ⟨T, (l, ob') :: O⟩) l ob') : Conc c N ⟨T, (l, ob') :: O⟩ a w' ρ S := by
  have hSw : ∀ f b, S f b → w'.heap[b]? = w.heap[b]? := fun f b hb => hf.block b (h.Sb f b hb) (fun e => h.dS l ob b f hl hv e hb)
  have hsp : ∀ m om, ok ((l, ob') :: O) m = some om → (m = l ∧ om = ob') ∨ (m ≠ l ∧ ok O m = some om) := fun m om hm => by
    rw [qa3] at hm
    split at hm
    · rename_i e; exact .inl ⟨e.symm, by simpa using hm.symm⟩
    · rename_i e; exact .inr ⟨fun e' => e e'.symm, hm⟩
  refine ⟨h.tm, h.df, fun t v ht => (h.T t v ht).mono (fun _ _ h => h) hSw U_cons (fun _ _ => rfl), fun m om hm => ?_, fun m m' om om' b h1 h2 h3 h4 h5 h6 => ?_, fun m om b f h1 h2 h3 => ?_, fun m om b h1 h2 h3 => ?_, fun m om b h1 h2 h3 => ?_, h.SS, fun f b hb => Nat.lt_of_lt_of_le (h.Sb f b hb) hf.size, h.Sn, h.So, fun m hm => ?_, h.fm.grow hf.far0 (fun _ => hf.dr) (fun f b h => ⟨f, h⟩) hSw (fun _ h => .inl h) fun b hb e => ?_⟩
  · rcases hsp m om hm with ⟨rfl, rfl⟩ | ⟨hne', hm'⟩
    · exact hob
    · by_cases hv' : om.live
      · exact (h.O m om hm').mono (fun _ _ h => h) hSw U_cons (fun _ _ => rfl) (by simp [St.U, hm']) (fun b hb => hf.block b (h.lt m om b hm' hv' hb) (fun e => hne' (h.dj m l om ob b hm' hl hv' hv hb e)))
      · cases om <;> simp [Ob.live] at hv'; trivial
  · rcases hsp m om h1 with ⟨e1, e2⟩ | ⟨n1, k1⟩ <;> rcases hsp m' om' h2 with ⟨e3, e4⟩ | ⟨n2, k2⟩
    · rw [e1, e3]
    · rw [e1] at h5 ⊢; exact h.dj l m' ob om' b hl k2 hv h4 h5 h6
    · rw [e3] at h6 ⊢; exact h.dj m l om ob b k1 hl h3 hv h5 h6
    · exact h.dj m m' om om' b k1 k2 h3 h4 h5 h6
  · rcases hsp m om h1 with ⟨rfl, rfl⟩ | ⟨n1, h1⟩
    · exact h.dS m ob b f hl hv h3
    · exact h.dS m om b f h1 h2 h3
  · rcases hsp m om h1 with ⟨rfl, rfl⟩ | ⟨n1, h1⟩
    · exact h.wr m ob b hl hv h3
    · exact h.wr m om b h1 h2 h3
  · rcases hsp m om h1 with ⟨rfl, rfl⟩ | ⟨n1, h1⟩
    · exact Nat.lt_of_lt_of_le (h.lt m ob b hl hv h3) hf.size
    · exact Nat.lt_of_lt_of_le (h.lt m om b h1 h2 h3) hf.size
  · obtain ⟨h1, h2⟩ := h.lo m hm
    refine ⟨?_, h2⟩
    simp only [qa3]
    split
    · rfl
    · exact h1
  · rcases h.wr l ob b hl hv e with h1 | h1
    · omega
    · exact h1.2
def AV.cellsOf : AV → Option (List AV)
  | .any => none
  | .tup _ => none
  | .agg cs => some cs
  | .imm v => match v with
    | .agg _ => none
    | .tuple _ => none
    | v => some [.imm v]
  | v => some [v]
theorem rep_cellsOf {w : World} {ρ : Nat → Value} {S : Bool → Nat → Prop} {U : Nat → Prop} {v : AV} {x : Value} {cs : List AV} (h : v.cellsOf = some cs) (hr : Rep w ρ S U v x) :
    ∃ xs : List Value, x.cells = xs.toArray ∧ (∀ y ∈ xs, y.oneCell' = true) ∧ RepL w ρ S U cs xs := by
  have one : ∀ u : AV, cs = [u] → Rep w ρ S U u x → x.oneCell' = true → x.cells = #[x] → ∃ xs : List Value, x.cells = xs.toArray ∧ (∀ y ∈ xs, y.oneCell' = true) ∧ RepL w ρ S U cs xs := by
    rintro u rfl hu h1 hc
    exact ⟨[x], by simp [hc], by simpa using h1, by simp only [RepL]; exact ⟨x, [], rfl, hu, rfl⟩⟩
  cases v with
  | any => simp [AV.cellsOf] at h
  | tup vs => simp [AV.cellsOf] at h
  | agg az =>
    simp only [AV.cellsOf, Option.some.injEq] at h; subst h
    simp only [Rep] at hr
    obtain ⟨xs, rfl, h1, h2⟩ := hr
    exact ⟨xs, rfl, h1, h2⟩
  | imm u =>
    have hx := hr
    simp only [Rep] at hx; subst hx
    cases x <;> simp only [AV.cellsOf, Option.some.injEq, reduceCtorEq] at h <;> first | exact h.elim | exact one _ h.symm hr rfl rfl
  | dat f k es =>
    simp only [AV.cellsOf, Option.some.injEq] at h
    have hr' := hr
    simp only [Rep, RepD] at hr'
    obtain ⟨A, n, cap, rfl, _⟩ := hr'
    exact one _ h.symm hr rfl rfl
  | ptr l off =>
    simp only [AV.cellsOf, Option.some.injEq] at h
    have hr' := hr
    simp only [Rep] at hr'
    obtain ⟨_, b, _, rfl⟩ := hr'
    exact one _ h.symm hr rfl rfl
  | elp f ds =>
    simp only [AV.cellsOf, Option.some.injEq] at h
    have hr' := hr
    simp only [Rep] at hr'
    obtain ⟨b, off, rfl, _⟩ := hr'
    exact one _ h.symm hr rfl rfl
  | fn f caps =>
    simp only [AV.cellsOf, Option.some.injEq] at h
    have hr' := hr
    simp only [Rep] at hr'
    obtain ⟨xs, rfl, _⟩ := hr'
    exact one _ h.symm hr rfl rfl
  | row l =>
    simp only [AV.cellsOf, Option.some.injEq] at h
    have hr' := hr
    simp only [Rep] at hr'
    obtain ⟨_, _, A, n, cap, rfl⟩ := hr'
    exact one _ h.symm hr rfl rfl
  | map l =>
    simp only [AV.cellsOf, Option.some.injEq] at h
    have hr' := hr
    simp only [Rep] at hr'
    obtain ⟨_, _, r, rfl⟩ := hr'
    exact one _ h.symm hr rfl rfl
  | vw l off n c =>
    simp only [AV.cellsOf, Option.some.injEq] at h
    have hr' := hr
    simp only [Rep] at hr'
    obtain ⟨_, b, _, rfl⟩ := hr'
    exact one _ h.symm hr rfl rfl
theorem aop_new {σ' : St} {l : Nat} {v : AV} {ob : Ob} {p0 : Nat → Value} (hd : ∀ d, o.dst = some d → d < N) (hl : ok σ'.O l = none)
    (h : ∀ a w ρ S, Conc c N σ' a w ρ S → ∃ obj, (execOp a.eval o).run P w = .ok (.value (p0 w.heap.size)) (w.alloc obj) ∧ blk (p0 w.heap.size) = some w.heap.size ∧
      ∀ ρ' U', (∀ m, σ'.U m → ρ' m = ρ m) → (∀ m, σ'.U m → U' m) → U' l → ρ' l = p0 w.heap.size → ObOk (w.alloc obj) ρ' S U' l ob ∧ Rep (w.alloc obj) ρ' S U' v (p0 w.heap.size)) :
    AOp P c N o σ' (fun σ2 => σ2 = σ'.add o.dst v [(l, ob)]) := by
  rintro a w ⟨ρ, S, hc⟩
  obtain ⟨obj, hr, hp, hob⟩ := h a w ρ S hc
  unfold Oper.wp
  rw [hr]
  have hw0 := hc.fm.size
  have hg : Conc c N ⟨σ'.T, σ'.O⟩ a (w.alloc obj) ρ S := hc.grow (Far.alloc (fun _ => False) w obj) (fun _ _ _ h => h) (fun _ _ _ _ _ _ h => h) (fun _ _ h => h.elim)
  have hρ : ∀ m, σ'.U m → upd ρ l (p0 w.heap.size) m = ρ m := fun m hm => qbj fun e => by subst e; simp [St.U, hl] at hm
  have hk := hob (upd ρ l (p0 w.heap.size)) (St.U ⟨σ'.T, (l, ob) :: σ'.O⟩) hρ (fun m hm => U_cons m hm) (by simp [St.U, qa3]) (qb1 ρ l _)
  have ha : Conc c N ⟨σ'.T, (l, ob) :: σ'.O⟩ a (w.alloc obj) (upd ρ l (p0 w.heap.size)) S := by
    refine hg.addOb hl (fun b hb => ?_) hk.1
    rw [hp] at hb; simp only [Option.some.injEq] at hb; subst hb
    refine ⟨by rw [size_alloc']; omega, hw0, fun f hS => Nat.lt_irrefl _ (hc.Sb f _ hS), fun m om hm hv e => Nat.lt_irrefl _ (hc.lt m om _ hm hv e)⟩
  have := ha.put (dst := o.dst) hd hk.2
  refine ⟨_, ⟨_, _, this⟩, ?_⟩
  cases o.dst <;> simp [St.put, St.add]
theorem heap_new (w : World) (x : Obj) : (w.alloc x).heap[w.heap.size]? = some x := heap_alloc_new w x
theorem run_newVar (w : World) (t : TypeId) (v : Value) : (newVar t v).run P w = .ok ⟨w.heap.size, 0, none⟩ (w.alloc (.cells v.cells t)) := by
  simp [newVar, newRow, Sem.run_bind, run_newObj_alloc]
theorem qaa {x : Operand} {t : TypeId} {v : AV} {cs : List AV} (l : Nat) (ho : o.op = .box t x) (hx : ev σ.T x = some v) (hv : v.cellsOf = some cs) : Stp P c N o σ [] (.ptr l 0) [(l, .box cs)] := by
  rintro hd σ' h1 h2 hn
  refine aop_new (p0 := fun b => .pointer (some ⟨b, 0, none⟩)) hd (hn _ (List.mem_singleton.2 rfl)) fun a w ρ S hc => ?_
  have h := qaF hc (h1 x (by simp [ho, Op.operands]) _ hx)
  obtain ⟨xs, hxs, h3, hr⟩ := rep_cellsOf hv h
  refine ⟨.cells (a.eval x).cells t, ?_, rfl, fun ρ' U' hρ hU hl hp => ⟨⟨w.heap.size, t, xs, hp, by rw [heap_new, hxs], h3, hr.mono (fun _ _ h => h) (fun f b hb => (Far.alloc (fun _ => False) w _).block b (hc.Sb f b hb) (fun h => h)) hU hρ⟩, ?_⟩⟩
  · simp only [execOp, ho, Instr.box]
    simp [Sem.run_bind, run_newVar]
  · simp only [Rep]
    exact ⟨hl, _, by rw [hp]; rfl, rfl⟩
def zvB (P : Program) (t : TypeId) : Option (Option (List Value)) := (P.info? t).map fun i => i.zero.map fun z => z.cells.toList
theorem zv_spec {t : TypeId} {zs : List Value} (h : zvB P t = some (some zs)) : ∃ i z, P.info? t = some i ∧ i.zero = some z ∧ z.cells.toList = zs := by
  unfold zvB at h
  cases hi : P.info? t with
  | none => simp [hi] at h
  | some i =>
    cases hz : i.zero with
    | none => simp [hi, hz] at h
    | some z => exact ⟨i, z, rfl, hz, by simpa [hi, hz] using h⟩
theorem run_zero {t : TypeId} {i : TypeInfo} {z : Value} (h1 : P.info? t = some i) (h2 : i.zero = some z) (w : World) : (zeroValue t).run P w = .ok z w := by
  simp [zeroValue, Sem.run_bind, run_typeInfo w h1, h2]
theorem repL_imm {w : World} {ρ : Nat → Value} {S : Bool → Nat → Prop} {U : Nat → Prop} : ∀ zs : List Value, RepL w ρ S U (zs.map AV.imm) zs
  | [] => by simp [RepL]
  | z :: zs => by simp only [List.map_cons, RepL]; exact ⟨z, zs, rfl, by simp [Rep], repL_imm zs⟩
theorem qaD {t : TypeId} {zs : List Value} (l : Nat) (ho : o.op = .alloc t) (hz : zvB P t = some (some zs)) (h1 : zs.all (·.oneCell') = true) : Stp P c N o σ [] (.ptr l 0) [(l, .box (zs.map .imm))] := by
  rintro hd σ' _ _ hn
  refine aop_new (p0 := fun b => .pointer (some ⟨b, 0, none⟩)) hd (hn _ (List.mem_singleton.2 rfl)) fun a w ρ S hc => ?_
  obtain ⟨i, z, h2, h3, h4⟩ := zv_spec hz
  refine ⟨.cells z.cells t, ?_, rfl, fun ρ' U' hρ hU hl hp => ⟨⟨w.heap.size, t, zs, hp, by rw [heap_new, ← h4], fun y hy => (List.all_eq_true.1 h1) y hy, repL_imm zs⟩, ?_⟩⟩
  · simp only [execOp, ho, Instr.alloc]
    simp [Sem.run_bind, run_zero h2 h3, run_newVar]
  · simp only [Rep]
    exact ⟨hl, _, by rw [hp]; rfl, rfl⟩
def Ob.with : Ob → List AV → Ob
  | .box _, cs => .box cs
  | .row e k _, cs => .row e k cs
  | o, _ => o
def qaz {α : Type} (cs : List α) (off : Nat) (vs : List α) : List α := cs.take off ++ vs ++ cs.drop (off + vs.length)
theorem qb2 {α : Type} {cs : List α} {off : Nat} {vs : List α} (h : off + vs.length ≤ cs.length) : (qaz cs off vs).length = cs.length := by
  simp [qaz]; omega
theorem qci {α : Type} {cs : List α} {off : Nat} {vs : List α} (h : off + vs.length ≤ cs.length) (i : Nat) : (qaz cs off vs)[i]? = if i < off then cs[i]? else if i < off + vs.length then vs[i - off]? else cs[i]? := by
  simp only [qaz]
  have ht : (cs.take off).length = off := by simp; omega
  by_cases h1 : i < off
  · rw [if_pos h1, List.append_assoc, List.getElem?_append_left (by omega), List.getElem?_take_of_lt h1]
  · rw [if_neg h1, List.append_assoc, List.getElem?_append_right (by omega), ht]
    by_cases h2 : i < off + vs.length
    · rw [if_pos h2, List.getElem?_append_left (by omega)]
    · rw [if_neg h2, List.getElem?_append_right (by omega), List.getElem?_drop]
      congr 1
      omega
theorem splice_take {α : Type} {cur : List α} {off m : Nat} {vs : List α} (h : off + vs.length ≤ m) (hm : m ≤ cur.length) : (qaz cur off vs).take m = qaz (cur.take m) off vs := by
  apply List.ext_getElem?
  intro i
  rw [List.getElem?_take, qci (by omega), qci (by simp; omega)]
  by_cases h1 : i < m
  · simp only [h1, if_true]
    rw [List.getElem?_take_of_lt h1]
  · rw [if_neg h1, if_neg (by omega), if_neg (by omega)]
    symm
    apply List.getElem?_eq_none
    simp; omega
theorem qdS {t : TypeId} {b : Bool} {n : Nat} (ht : tfB P t b n = true) (w : World) (g off : Nat) (ty : TypeId) (v : Value) (xs ys : List Value) (hv : v.cells = xs.toArray) (h1 : ∀ y ∈ xs, y.oneCell' = true) (hl : xs.length = n) (hg : w.heap[g]? = some (.cells ys.toArray ty (0, 0))) (hn : off + n ≤ ys.length) :
    (storeVar t ⟨g, off, none⟩ v).run P w = .ok () (w.setRow g (qaz ys off xs).toArray) := by
  obtain ⟨d, i, h2, h3, h4, h5, h6⟩ := tf_spec ht
  have := run_storeCells_at (P := P) g off ty xs 0 ys.toArray w hg (by simp; omega) h1
  simp only [Nat.add_zero] at this
  simp [storeVar, Sem.run_bind, sizeOf, run_typeInfo w h3, hv, h5, hl, this, qaz]
theorem far_setRow (w : World) (g : Nat) (xs : Array Value) : Far (fun b => some g = some b) w (w.setRow g xs) :=
  ⟨rfl, rfl, rfl, by simp, fun b hb hne => setRow_other w g b xs (fun e => hne (by rw [e])), Nat.le_refl _⟩
theorem aop_store {x y : Operand} {t : TypeId} {b : Bool} {n l off : Nat} {ob : Ob} {v : AV} {vs : List AV} {T : List (Nat × AV)} {O : List (Nat × Ob)} (ho : o.op = .store t x y) (hd : o.dst = none) (ht : tfB P t b n = true) (hx : ev T x = some (.ptr l off)) (hl : ok O l = some ob)
    (hy : ev T y = some v) (hv : v.cellsOf = some vs) (hn : vs.length = n) (hoff : off + n ≤ ob.cells.length) (h0 : 0 < n) (hnd : ∀ e k f es, ob ≠ .rowd e k f es) : AOp P c N o ⟨T, O⟩ (fun σ2 => σ2 = ⟨T, (l, ob.with (qaz ob.cells off vs)) :: O⟩) := by
  rintro a w ⟨ρ, S, hc⟩
  obtain ⟨g, hg, hx'⟩ := eval_ptr hc hx
  have hy' := qaF hc hy
  obtain ⟨xs, hxs, h1, hr⟩ := rep_cellsOf hv hy'
  have hlen := hr.length
  have hob := hc.O l ob hl
  have hlive : ob.live := by cases ob <;> simp [Ob.live, Ob.cells] at hoff ⊢ <;> omega
  have hput : a.put o.dst undef = a := by rw [hd]; rfl
  have key : ∀ w', (storeVar t ⟨g, off, none⟩ (a.eval y)).run P w = .ok () w' → Far (fun b => blk (ρ l) = some b) w w' → ObOk w' ρ S (St.U ⟨T, (l, ob.with (qaz ob.cells off vs)) :: O⟩) l (ob.with (qaz ob.cells off vs)) →
      o.wp P a w (fun a' w' => ∃ σ', C c N σ' a' w' ∧ σ' = ⟨T, (l, ob.with (qaz ob.cells off vs)) :: O⟩) (fun _ _ _ => False) := by
    intro w' hr hf hob'
    unfold Oper.wp
    have : (execOp a.eval o).run P w = .ok .skip w' := by
      simp only [execOp, ho, Instr.storeAt, hx', Instr.sureAddr]
      simp [Sem.run_bind, hr]
    rw [this]
    refine ⟨_, ⟨ρ, S, ?_⟩, rfl⟩
    rw [hput]
    exact hc.modOb hl hlive hf hob'
  have hrU : ∀ w' ob', Far (fun b => blk (ρ l) = some b) w w' → ∀ us zs, RepL w ρ S (St.U ⟨T, O⟩) us zs → RepL w' ρ S (St.U ⟨T, (l, ob') :: O⟩) us zs := fun w' ob' hf us zs h =>
    h.mono (fun _ _ h => h) (fun f b hb => hf.block b (hc.Sb f b hb) (fun e => hc.dS l ob b f hl hlive e hb)) U_cons (fun _ _ => rfl)
  cases ob with
  | box cs =>
    obtain ⟨b', ty, ys, h2, h3, h4, h5⟩ := hob
    rw [h2] at hg; simp only [blk, Option.some.injEq] at hg; subst hg
    have hl5 := h5.length
    simp only [Ob.cells] at hoff
    have hf : Far (fun b => blk (ρ l) = some b) w (w.setRow b' (qaz ys off xs).toArray) := by
      rw [h2]; exact far_setRow w b' _
    refine key _ (qdS ht w b' off ty _ xs ys hxs h1 (by omega) h3 (by omega)) hf ⟨b', ty, qaz ys off xs, h2, setRow_heap w b' _ _ ty _ h3, ?_, ?_⟩
    · intro y hy
      simp only [qaz, List.mem_append] at hy
      rcases hy with (hy | hy) | hy
      · exact h4 y (List.mem_of_mem_take hy)
      · exact h1 y hy
      · exact h4 y (List.mem_of_mem_drop hy)
    · refine hrU _ _ hf _ _ ?_
      simp only [Ob.cells, qaz]
      rw [hlen]
      exact ((h5.take off).append hr).append (h5.drop _)
  | row e k cs =>
    obtain ⟨m, ys, h2, h3, h4⟩ := hob
    obtain ⟨cap, cur, h5, h6, h7, h8, h9, h10, h11⟩ := row_cells h2 hg
    have hl4 := h4.length
    simp only [Ob.cells] at hoff
    have h6' : w.heap[g]? = some (.cells cur.toList.toArray e (0, 0)) := by simpa using h6
    have hcl : cur.toList.length = cap * k := by simpa using h9
    have hmk : m * k ≤ cap * k := Nat.mul_le_mul_right k h7
    have hf : Far (fun b => blk (ρ l) = some b) w (w.setRow g (qaz cur.toList off xs).toArray) := by
      rw [h5]; exact far_setRow w g _
    refine key _ (qdS ht w g off e _ xs cur.toList hxs h1 (by omega) h6' (by omega)) hf ⟨m, qaz ys off xs, ?_, ?_, ?_⟩
    · refine ⟨by rw [qb2 (by omega)]; exact h11, .inr ⟨g, cap, (qaz cur.toList off xs).toArray, h5, Nat.zero_le _, setRow_heap w g _ _ e _ h6, h7, h8, ?_, ?_⟩⟩
      · simp only [List.size_toArray]; rw [qb2 (by omega)]; exact hcl
      · simp only []
        rw [splice_take (by omega) (by omega), h10]
    · intro y hy
      simp only [qaz, List.mem_append] at hy
      rcases hy with (hy | hy) | hy
      · exact h3 y (List.mem_of_mem_take hy)
      · exact h1 y hy
      · exact h3 y (List.mem_of_mem_drop hy)
    · refine hrU _ _ hf _ _ ?_
      simp only [Ob.cells, qaz]
      rw [hlen]
      exact ((h4.take off).append hr).append (h4.drop _)
  | rowd e k f es => exact absurd rfl (hnd e k f es)
  | mp P k ks => simp [Ob.cells] at hoff; omega
  | arr e k f es => simp [Ob.cells] at hoff; omega
  | mx it P k kvs cur => simp [Ob.cells] at hoff; omega
  | dead => simp [Ob.cells] at hoff; omega
end
end Go.Proofs.YtpgceiijoedppaaGreat

namespace Go.Proofs.YtpgceiijoedppaaGreat
open Go
mutual
def AV.allL (p : Nat → Bool) : AV → Bool
  | .any => true
  | .imm _ => true
  | .dat _ _ _ => true
  | .agg cs => AV.allLs p cs
  | .ptr l _ => p l
  | .elp _ _ => true
  | .row l => p l
  | .fn _ cs => AV.allLs p cs
  | .map l => p l
  | .tup cs => AV.allLs p cs
  | .vw l _ _ _ => p l
def AV.allLs (p : Nat → Bool) : List AV → Bool
  | [] => true
  | v :: vs => AV.allL p v && AV.allLs p vs
end
def Ob.allL (p : Nat → Bool) : Ob → Bool
  | .box cs => AV.allLs p cs
  | .row _ _ cs => AV.allLs p cs
  | .rowd _ _ _ _ => true
  | .mp _ _ _ => true
  | .dead => true
  | .arr _ _ _ _ => true
  | .mx _ _ _ _ _ => true
mutual
theorem Rep.move {w w' : World} {ρ ρ' : Nat → Value} {S S' : Bool → Nat → Prop} {U U' : Nat → Prop} {p : Nat → Bool} (hS : ∀ f b, S f b → S' f b) (hw : ∀ f b, S f b → w'.heap[b]? = w.heap[b]?)
    (hp : ∀ l, p l = true → U l → U' l ∧ ρ' l = ρ l) : ∀ (v : AV) (x : Value), v.allL p = true → Rep w ρ S U v x → Rep w' ρ' S' U' v x
  | .any, x, _, _ => by simp [Rep]
  | .imm v, x, _, h => by simpa [Rep] using h
  | .dat f k es, x, _, h => by
    simp only [Rep] at h ⊢
    exact RepD.mono id (hS f) (hw f) _ _ h
  | .agg cs, x, ha, h => by
    simp only [Rep] at h ⊢
    simp only [AV.allL] at ha
    obtain ⟨xs, hx, h1, h⟩ := h
    exact ⟨xs, hx, h1, RepL.move hS hw hp cs xs ha h⟩
  | .ptr l off, x, ha, h => by
    simp only [Rep] at h ⊢
    simp only [AV.allL] at ha
    obtain ⟨hl, b, hb, hx⟩ := h
    exact ⟨(hp l ha hl).1, b, by rw [(hp l ha hl).2]; exact hb, hx⟩
  | .elp f cs, x, _, h => by
    simp only [Rep] at h ⊢
    obtain ⟨b, off, hx, hb, h⟩ := h
    exact ⟨b, off, hx, hS f b hb, qbE.mono id (hS f) (hw f) b hb off cs h⟩
  | .row l, x, ha, h => by
    simp only [Rep] at h ⊢
    simp only [AV.allL] at ha
    exact ⟨(hp l ha h.1).1, by rw [(hp l ha h.1).2]; exact h.2.1, h.2.2⟩
  | .fn f caps, x, ha, h => by
    simp only [Rep] at h ⊢
    simp only [AV.allL] at ha
    obtain ⟨xs, hx, h⟩ := h
    exact ⟨xs, hx, RepL.move hS hw hp caps xs ha h⟩
  | .map l, x, ha, h => by
    simp only [Rep] at h ⊢
    simp only [AV.allL] at ha
    exact ⟨(hp l ha h.1).1, by rw [(hp l ha h.1).2]; exact h.2.1, h.2.2⟩
  | .tup vs, x, ha, h => by
    simp only [Rep] at h ⊢
    simp only [AV.allL] at ha
    obtain ⟨xs, hx, h⟩ := h
    exact ⟨xs, hx, RepL.move hS hw hp vs xs ha h⟩
  | .vw l off n c, x, ha, h => by
    simp only [Rep] at h ⊢
    simp only [AV.allL] at ha
    obtain ⟨hl, b, hb, hx⟩ := h
    exact ⟨(hp l ha hl).1, b, by rw [(hp l ha hl).2]; exact hb, hx⟩
theorem RepL.move {w w' : World} {ρ ρ' : Nat → Value} {S S' : Bool → Nat → Prop} {U U' : Nat → Prop} {p : Nat → Bool} (hS : ∀ f b, S f b → S' f b) (hw : ∀ f b, S f b → w'.heap[b]? = w.heap[b]?)
    (hp : ∀ l, p l = true → U l → U' l ∧ ρ' l = ρ l) : ∀ (vs : List AV) (xs : List Value), AV.allLs p vs = true → RepL w ρ S U vs xs → RepL w' ρ' S' U' vs xs
  | [], xs, _, h => by simpa [RepL] using h
  | v :: vs, xs, ha, h => by
    simp only [RepL] at h ⊢
    simp only [AV.allLs, Bool.and_eq_true] at ha
    obtain ⟨y, ys, hx, h1, h2⟩ := h
    exact ⟨y, ys, hx, Rep.move hS hw hp v y ha.1 h1, RepL.move hS hw hp vs ys ha.2 h2⟩
end
theorem qbW (p : Nat → Bool) (f : Bool) : ∀ ds : List D, AV.allLs p (lift f ds) = true
  | [] => rfl
  | d :: ds => by
    simp only [lift, List.map_cons, AV.allLs, Bool.and_eq_true]
    exact ⟨by cases d <;> rfl, qbW p f ds⟩
theorem ObOk.move {w w' : World} {ρ ρ' : Nat → Value} {S S' : Bool → Nat → Prop} {U U' : Nat → Prop} {l : Nat} {p : Nat → Bool} (hS : ∀ f b, S f b → S' f b) (hw : ∀ f b, S f b → w'.heap[b]? = w.heap[b]?)
    (hp : ∀ l, p l = true → U l → U' l ∧ ρ' l = ρ l) (hl : ρ' l = ρ l) {o : Ob} (ha : o.allL p = true) (hb : ∀ b, blk (ρ l) = some b → w'.heap[b]? = w.heap[b]?) (h : ObOk w ρ S U l o) : ObOk w' ρ' S' U' l o := by
  cases o with
  | box cs =>
    obtain ⟨b, ty, xs, h1, h2, h3, h4⟩ := h
    exact ⟨b, ty, xs, by rw [hl, h1], by rw [hb b (by simp [h1, blk]), h2], h3, RepL.move hS hw hp _ _ ha h4⟩
  | row e k cs =>
    obtain ⟨n, xs, h1, h2, h3⟩ := h
    exact ⟨n, xs, by rw [hl]; exact qcj h1 hb, h2, RepL.move hS hw hp _ _ ha h3⟩
  | rowd e k f es =>
    obtain ⟨h0, xs, h1, h2, h3⟩ := h
    exact ⟨h0, xs, by rw [hl]; exact qcj h1 hb, h2, RepL.move hS hw hp _ _ (qbW p f _) h3⟩
  | mp P k ks =>
    obtain ⟨r, h1, h2⟩ := h
    exact ⟨r, by rw [hl, h1], h2.of_block (hb r (by simp [h1, blk]))⟩
  | dead => trivial
  | arr e k f es =>
    obtain ⟨b, xs, h1, h2, h3, h4, h5⟩ := h
    exact ⟨b, xs, by rw [hl, h1], by rw [hb b (by simp [h1, blk]), h2], h3, h4, fun i d hd => ⟨(h5 i d hd).1, RepL.move hS hw hp _ _ (qbW p f _) (h5 i d hd).2.1, (h5 i d hd).2.2⟩⟩
  | mx it P k kvs cur =>
    simp only [ObOk] at h ⊢
    rw [hl]
    exact h.mono (hS false) (hw false) hb
def SubT (T1 T : List (Nat × AV)) : Prop := ∀ t v, lk T1 t = some v → lk T t = some v
def SubO (O1 O : List (Nat × Ob)) : Prop := ∀ t v, ok O1 t = some v → ok O t = some v
theorem SubT.nil {T : List (Nat × AV)} : SubT [] T := fun _ _ h => by simp [lk] at h
theorem SubT.cons {T1 T : List (Nat × AV)} {t : Nat} {v : AV} (h : lk T t = some v) (k : SubT T1 T) : SubT ((t, v) :: T1) T := fun s u hs => by
  rw [qcd] at hs
  split at hs
  · rename_i e; subst e; rw [h]; exact hs
  · exact k s u hs
theorem SubO.nil {T : List (Nat × Ob)} : SubO [] T := fun _ _ h => by simp [ok] at h
theorem SubO.cons {T1 T : List (Nat × Ob)} {t : Nat} {v : Ob} (h : ok T t = some v) (k : SubO T1 T) : SubO ((t, v) :: T1) T := fun s u hs => by
  rw [qa3] at hs
  split at hs
  · rename_i e; subst e; rw [h]; exact hs
  · exact k s u hs
theorem SubO.refl (O : List (Nat × Ob)) : SubO O O := fun _ _ h => h
def inD (O : List (Nat × Ob)) (l : Nat) : Bool := (ok O l).isSome
def allT (p : Nat → Bool) : List (Nat × AV) → Bool
  | [] => true
  | (_, v) :: T => v.allL p && allT p T
def allO (p : Nat → Bool) : List (Nat × Ob) → Bool
  | [] => true
  | (_, v) :: T => v.allL p && allO p T
theorem allT_get {p : Nat → Bool} : ∀ {T : List (Nat × AV)} {t : Nat} {v : AV}, allT p T = true → lk T t = some v → v.allL p = true
  | (s, u) :: T, t, v, h, hv => by
    simp only [allT, Bool.and_eq_true] at h
    rw [qcd] at hv
    split at hv
    · simp only [Option.some.injEq] at hv; subst hv; exact h.1
    · exact allT_get h.2 hv
theorem allO_get {p : Nat → Bool} : ∀ {T : List (Nat × Ob)} {t : Nat} {v : Ob}, allO p T = true → ok T t = some v → v.allL p = true
  | (s, u) :: T, t, v, h, hv => by
    simp only [allO, Bool.and_eq_true] at h
    rw [qa3] at hv
    split at hv
    · simp only [Option.some.injEq] at hv; subst hv; exact h.1
    · exact allO_get h.2 hv
section
variable {P : Program} {c : Ctx} {N : Nat} {Q : Exit → St → Prop} {σ : St} {o : Oper}
theorem sub_TO {T T1 : List (Nat × AV)} {O O1 : List (Nat × Ob)} (h : SubT T1 T) (k : SubO O1 O) (hT : allT (inD O1) T1 = true) (hO : allO (inD O1) O1 = true) (hL : ∀ l, c.L l → inD O1 l = true) : Sub c N ⟨T, O⟩ ⟨T1, O1⟩ := by
  rintro a w ⟨ρ, S, hc⟩
  have hp : ∀ l, inD O1 l = true → St.U ⟨T, O⟩ l → St.U ⟨T1, O1⟩ l ∧ ρ l = ρ l := fun l hl _ => ⟨hl, rfl⟩
  refine ⟨ρ, S, ⟨hc.tm, hc.df, fun t v ht => ?_, fun l ob hl => ?_, fun l l' ob ob' b h1 h2 => hc.dj l l' ob ob' b (k l ob h1) (k l' ob' h2), fun l ob b f h1 => hc.dS l ob b f (k l ob h1), fun l ob b h1 => hc.wr l ob b (k l ob h1), fun l ob b h1 => hc.lt l ob b (k l ob h1), hc.SS, hc.Sb, hc.Sn, hc.So, fun l hl => ⟨hL l hl, (hc.lo l hl).2⟩, hc.fm⟩⟩
  · exact (hc.T t v (h t v ht)).move (fun _ _ h => h) (fun _ _ _ => rfl) hp v _ (allT_get hT ht)
  · exact (hc.O l ob (k l ob hl)).move (fun _ _ h => h) (fun _ _ _ => rfl) hp rfl (allO_get hO hl) (fun _ _ => rfl)
def fillA (pl : Nat → Option (Nat × Nat)) : List AV → List (Nat × List AV) → Option (List AV)
  | cs, [] => some cs
  | cs, (i, vs) :: rest => match pl i with
    | none => none
    | some (off, size) => if vs.length = size ∧ off + size ≤ cs.length then fillA pl (qaz cs off vs) rest else none
theorem foldl_set {xs : List Value} : ∀ (ys : List Value) (j off : Nat) (cur : List Value), off + j + ys.length ≤ cur.length →
    (ys.zipIdx j).foldl (fun (cs : Array Value) (p : Value × Nat) => cs.setIfInBounds (off + p.2) p.1) cur.toArray = (qaz cur (off + j) ys).toArray
  | [], j, off, cur, h => by simp [qaz]
  | y :: ys, j, off, cur, h => by
    simp only [List.zipIdx_cons, List.foldl_cons, List.setIfInBounds_toArray]
    simp only [List.length_cons] at h
    rw [foldl_set (xs := xs) ys (j + 1) off (cur.set (off + j) y) (by simp; omega)]
    congr 1
    apply List.ext_getElem?
    intro i
    rw [qci (by simp; omega), qci (by simp; omega)]
    simp only [List.length_cons]
    by_cases h1 : i < off + j
    · rw [if_pos (by omega), if_pos h1, List.getElem?_set_ne (by omega)]
    · rw [if_neg h1]
      by_cases h2 : i = off + j
      · subst h2
        rw [if_pos (by omega), if_pos (by omega), List.getElem?_set_self (by omega)]
        simp
      · rw [if_neg (by omega)]
        by_cases h3 : i < off + (j + 1) + ys.length
        · rw [if_pos h3, if_pos (by omega), show i - (off + j) = (i - (off + (j + 1))) + 1 from by omega]
          simp
        · rw [if_neg h3, if_neg (by omega), List.getElem?_set_ne (by omega)]
def RepP (w : World) (ρ : Nat → Value) (S : Bool → Nat → Prop) (U : Nat → Prop) : List (Nat × List AV) → List (Nat × Value) → Prop
  | [], ps => ps = []
  | (i, vs) :: rest, ps => ∃ x xs ps', ps = (i, x) :: ps' ∧ x.cells = xs.toArray ∧ (∀ y ∈ xs, y.oneCell' = true) ∧ RepL w ρ S U vs xs ∧ RepP w ρ S U rest ps'
theorem fill_rep {w : World} {ρ : Nat → Value} {S : Bool → Nat → Prop} {U : Nat → Prop} {pl : Nat → Option (Nat × Nat)} : ∀ {parts : List (Nat × List AV)} {ps : List (Nat × Value)} {cs cs' : List AV} {xs : List Value}, RepP w ρ S U parts ps → RepL w ρ S U cs xs → (∀ y ∈ xs, y.oneCell' = true) → fillA pl cs parts = some cs' →
    ∃ xs', Instr.fill pl xs.toArray ps = some xs'.toArray ∧ RepL w ρ S U cs' xs' ∧ ∀ y ∈ xs', y.oneCell' = true
  | [], ps, cs, cs', xs, hP, hr, h1, h => by
    simp only [RepP] at hP; subst hP
    simp only [fillA, Option.some.injEq] at h; subst h
    exact ⟨xs, rfl, hr, h1⟩
  | (i, vs) :: rest, ps, cs, cs', xs, hP, hr, h1, h => by
    simp only [RepP] at hP
    obtain ⟨x, us, ps', rfl, hx, h2, h3, hP⟩ := hP
    simp only [fillA] at h
    split at h
    · simp at h
    · rename_i off size hpl
      split at h
      · rename_i hsz
        have hl := hr.length
        have hl3 := h3.length
        have hsp : RepL w ρ S U (qaz cs off vs) (qaz xs off us) := by
          simp only [qaz]; rw [hl3]; exact ((hr.take off).append h3).append (hr.drop _)
        have h1' : ∀ y ∈ qaz xs off us, y.oneCell' = true := by
          intro y hy
          simp only [qaz, List.mem_append] at hy
          rcases hy with (hy | hy) | hy
          · exact h1 y (List.mem_of_mem_take hy)
          · exact h2 y hy
          · exact h1 y (List.mem_of_mem_drop hy)
        obtain ⟨xs', hf, hr', h1''⟩ := fill_rep hP hsp h1' h
        refine ⟨xs', ?_, hr', h1''⟩
        have hfold := foldl_set (xs := xs) us 0 off xs (by omega)
        simp only [Nat.add_zero] at hfold
        simp only [Instr.fill, hpl, hx, List.size_toArray]
        rw [if_neg (by simp; omega)]
        have hfold' : Array.foldl (fun (cs : Array Value) (x : Value × Nat) => cs.setIfInBounds (off + x.2) x.1) xs.toArray us.toArray.zipIdx = (qaz xs off us).toArray := by
          rw [← hfold, ← Array.foldl_toList]
          simp
        exact (congrArg (fun z => Instr.fill pl z ps') hfold').trans hf
      · simp at h
def partsA (T : List (Nat × AV)) : List (Nat × Operand) → Option (List (Nat × List AV))
  | [] => some []
  | (i, x) :: r => match (ev T x).bind AV.cellsOf, partsA T r with
    | some cs, some rest => some ((i, cs) :: rest)
    | _, _ => none
theorem parts_rep {a : Act} {w : World} {ρ : Nat → Value} {S : Bool → Nat → Prop} {σ σ' : St} (hc : Conc c N σ' a w ρ S) : ∀ {parts : List (Nat × Operand)} {avs : List (Nat × List AV)}, (∀ p ∈ parts, ∀ u, ev σ.T p.2 = some u → ev σ'.T p.2 = some u) → partsA σ.T parts = some avs →
    RepP w ρ S σ'.U avs (parts.map fun (p : Nat × Operand) => (p.1, a.eval p.2))
  | [], avs, _, h => by simp only [partsA, Option.some.injEq] at h; subst h; simp [RepP]
  | (i, x) :: r, avs, h1, h => by
    simp only [partsA] at h
    split at h
    · rename_i cs rest hx hr
      simp only [Option.some.injEq] at h; subst h
      cases hv : ev σ.T x with
      | none => simp [hv] at hx
      | some v =>
        simp only [hv, Option.bind_some] at hx
        obtain ⟨xs, h2, h3, h4⟩ := rep_cellsOf hx (qaF hc (h1 (i, x) (by simp) v hv))
        simp only [RepP, List.map_cons]
        exact ⟨_, xs, _, rfl, h2, h3, h4, parts_rep hc (fun p hp => h1 p (by simp [hp])) hr⟩
    · simp at h
def plB (P : Program) (t : TypeId) : Option (List (Nat × Nat)) :=
  match P.underlying t with
  | some (.struct fs) => fs.toList.mapM (fun f => (P.info? f.type).map fun i => (f.offset, i.size))
  | _ => none
theorem qa1 {t : TypeId} {parts : List (Nat × Operand)} {zs : List Value} {pl : List (Nat × Nat)} {avs : List (Nat × List AV)} {cs : List AV} (ho : o.op = .build t parts.toArray) (hz : zvB P t = some (some zs)) (h1 : zs.all (·.oneCell') = true) (hp : plB P t = some pl)
    (ha : partsA σ.T parts = some avs) (hf : fillA (pl[·]?) (zs.map .imm) avs = some cs) : Stp P c N o σ [] (.agg cs) [] := by
  refine qaH fun σ' h2 _ a w ρ S hc => ?_
  obtain ⟨i, z, h3, h4, h5⟩ := zv_spec hz
  have hP := parts_rep hc (fun p hp u hu => h2 p.2 (by simp only [ho, Op.operands]; simpa using ⟨p.1, hp⟩) u hu) ha
  obtain ⟨xs, hx, hr, hone⟩ := fill_rep (pl := (pl[·]?)) hP (repL_imm zs) (fun y hy => (List.all_eq_true.1 h1) y hy) hf
  refine ⟨.agg xs.toArray, ?_, by simp only [Rep]; exact ⟨xs, rfl, hone, hr⟩⟩
  have hb : P.built t (parts.map fun (p : Nat × Operand) => (p.1, a.eval p.2)) = some xs.toArray := by
    unfold plB at hp
    unfold Program.built
    cases hu : P.underlying t with
    | none => simp [hu] at hp
    | some d =>
      cases d <;> simp only [hu, reduceCtorEq] at hp
      rename_i fs
      have hzz : z.cells = zs.toArray := by rw [← h5]
      simp only [h3, h4, hp, hzz]
      simpa using hx
  have hrun := run_build w t (parts.map fun (p : Nat × Operand) => (p.1, a.eval p.2)).toArray xs.toArray (by simpa using hb)
  simp only [execOp, ho]
  simp [Sem.run_bind, hrun]
theorem repL_any {w : World} {ρ : Nat → Value} {S : Bool → Nat → Prop} {U : Nat → Prop} : ∀ xs : List Value, RepL w ρ S U (List.replicate xs.length .any) xs
  | [] => by simp [RepL]
  | x :: xs => by simp only [List.length_cons, List.replicate_succ, RepL]; exact ⟨x, xs, rfl, by simp [Rep], repL_any xs⟩
theorem zeros_one {zs : List Value} (h1 : zs.all (·.oneCell') = true) (n : Nat) (z : Value) (hz : z.cells.toList = zs) (h0 : 0 < zs.length) : ∀ y ∈ ((Array.range n).map (z.cells[· % z.cells.size]!)).toList, y.oneCell' = true := by
  intro y hy
  simp only [Array.toList_map, List.mem_map] at hy
  obtain ⟨i, _, rfl⟩ := hy
  have hs : z.cells.size = zs.length := by rw [← hz]; simp
  have hlt : i % z.cells.size < z.cells.size := Nat.mod_lt _ (by omega)
  rw [getElem!_pos z.cells _ hlt]
  refine (List.all_eq_true.1 h1) _ ?_
  rw [← hz]
  exact Array.mem_toList_iff.2 (Array.getElem_mem _)
theorem qam {t e : TypeId} {n k : Nat} {parts : List (Nat × Operand)} {zs : List Value} {avs : List (Nat × List AV)} {cs : List AV} (l : Nat) (ho : o.op = .buildSlice t n parts.toArray) (ht : slB P t e k = true) (hz : zvB P e = some (some zs)) (h1 : zs.all (·.oneCell') = true) (hzl : zs.length = k) (hk : 0 < k) (hn : n * k ≤ 16777216)
    (hn0 : 0 < n) (ha : partsA σ.T parts = some avs) (hf : fillA (fun i => some (i * k, k)) (List.replicate (n * k) .any) avs = some cs) (hcs : cs.length = n * k) : Stp P c N o σ [] (.row l) [(l, .row e k cs)] := by
  rintro hd σ' h2 _ hnew
  refine aop_new (p0 := fun b => .slice (some ⟨b, 0, none⟩) n n) hd (hnew _ (List.mem_singleton.2 rfl)) fun a w ρ S hc => ?_
  obtain ⟨i, z, h3, h4, h5⟩ := zv_spec hz
  obtain ⟨i', h6, h7, h8⟩ := qcK ht
  rw [h3] at h7; simp only [Option.some.injEq] at h7; subst h7
  have hP := parts_rep hc (fun p hp u hu => h2 p.2 (by simp only [ho, Op.operands]; simpa using ⟨p.1, hp⟩) u hu) ha
  have hz0 : ((Array.range (n * k)).map (z.cells[· % z.cells.size]!)).toList.length = n * k := by simp
  have hr0 := repL_any (w := w) (ρ := ρ) (S := S) (U := σ'.U) ((Array.range (n * k)).map (z.cells[· % z.cells.size]!)).toList
  rw [hz0] at hr0
  obtain ⟨xs, hx, hr, hone⟩ := fill_rep (pl := fun i => some (i * k, k)) hP hr0 (zeros_one h1 _ z h5 (by omega)) hf
  have hxl := hr.length
  refine ⟨.cells xs.toArray e, ?_, rfl, fun ρ' U' hρ hU hl hp => ⟨⟨n, xs, ⟨by omega, .inr ⟨w.heap.size, n, xs.toArray, hp, Nat.zero_le _, heap_new w _, Nat.le_refl _, ?_, by simp; omega, by simp; rw [List.take_of_length_le (by omega)]⟩⟩, hone, hr.mono (fun _ _ h => h) (fun f b hb => (Far.alloc (fun _ => False) w _).block b (hc.Sb f b hb) (fun h => h)) hU hρ⟩, ?_⟩⟩
  · have hrun : (Instr.buildSlice t n (parts.map fun (p : Nat × Operand) => (p.1, a.eval p.2)).toArray).run P w = .ok (.slice (some ⟨w.heap.size, 0, none⟩) n n) (w.alloc (.cells xs.toArray e)) := by
      have hpos : 0 < n * k := Nat.mul_pos hn0 hk
      have hx' : Instr.fill (fun i => some (i * k, k)) ((Array.range (n * k)).map (z.cells[· % z.cells.size]!)) (parts.map fun (p : Nat × Operand) => (p.1, a.eval p.2)) = some xs.toArray := by rw [← hx]
      simp only [Instr.buildSlice, Sem.run_bind, run_underlying h6 w, Result.andThen_ok, sizeOf, run_typeInfo w h3, Sem.run_pure, h8]
      rw [if_neg (by omega), if_neg (by omega)]
      simp only [Sem.run_bind, run_zero h3 h4, Result.andThen_ok, Sem.run_pure]
      rw [hx']
      simp [newRow, Sem.run_bind, run_newObj_alloc]
    simp only [execOp, ho]
    simp only [List.map_toArray]
    simp [Sem.run_bind, hrun]
  · simp only [maxLen]
    have : n ≤ n * k := Nat.le_mul_of_pos_right n hk
    omega
  · simp only [Rep]
    exact ⟨hl, hp.symm, _, _, _, rfl⟩
end
end Go.Proofs.YtpgceiijoedppaaGreat

namespace Go.Proofs.YtpgceiijoedppaaGreat
open Go
def AV.toD (f : Bool) : AV → Option D
  | .imm v => some (.imm v)
  | .dat g k es => if g = f then some (.sl k es) else none
  | _ => none
def toDs (f : Bool) : List AV → Option (List D)
  | [] => some []
  | v :: vs => match v.toD f, toDs f vs with
    | some d, some ds => some (d :: ds)
    | _, _ => none
theorem toDs_lift {f : Bool} : ∀ {vs : List AV} {ds : List D}, toDs f vs = some ds → vs = lift f ds
  | [], ds, h => by simp only [toDs, Option.some.injEq] at h; subst h; rfl
  | v :: vs, ds, h => by
    simp only [toDs] at h
    split at h
    · rename_i d ds' hd hs
      simp only [Option.some.injEq] at h; subst h
      have := toDs_lift hs
      simp only [lift, List.map_cons, this]
      congr 1
      cases v <;> simp only [AV.toD, Option.some.injEq, reduceCtorEq] at hd <;> first | (subst hd; rfl) | (split at hd <;> simp at hd; rename_i hg; subst hd; subst hg; rfl) | exact hd.elim
    · simp at h
section
variable {P : Program} {c : Ctx} {N : Nat} {Q : Exit → St → Prop} {σ : St} {o : Oper}
theorem blk_own {A : Option Addr} {n c : Nat} : blk (.slice A n c) = (Value.slice A n c).ownBlock := by cases A <;> rfl
theorem owns_slice {w : World} {b : Nat} {e : TypeId} {k n : Nat} {v : Value} {xs : List Value} (h : w.ownsRow b e k v n xs) : ∃ A c, v = .slice A n c := by
  rcases h.2 with ⟨rfl, rfl⟩ | ⟨g, cap, cur, rfl, _⟩
  · exact ⟨none, 0, rfl⟩
  · exact ⟨_, _, rfl⟩
theorem owns_own {w : World} {b : Nat} {e : TypeId} {k n : Nat} {v : Value} {xs : List Value} (h : w.ownsRow b e k v n xs) : v.ownBlock = blk v := by
  obtain ⟨A, c, rfl⟩ := owns_slice h
  exact blk_own.symm
structure TyA (P : Program) (t e : TypeId) (k by_ : Nat) : Prop where
  s : slB P t e k = true
  z : ∃ z : Value, (P.info? e).map (fun i => (i.zero, i.size, i.bytes)) = some (some z, k, by_) ∧ z.cells.size = k
  k0 : 0 < k
theorem run_append_none (t ty e : TypeId) (k : Nat) (hs : slB P t e k = true) (w : World) (A : Option Addr) (n cap c' : Nat) (hn : n ≤ cap) (hA : ∀ a, A = some a → (storeCells (a.add (n * k)) []).run P w = .ok () w) :
    (Builtin.append_ #[t, t] ty #[.slice A n cap, .slice none 0 c']).run P w = .ok (.slice A n cap) w := by
  obtain ⟨i, h1, h2, h3⟩ := qcK hs
  have h1' := run_underlying h1 w
  cases A with
  | none => simp [Builtin.append_, h1', sizeOf, run_typeInfo w h2, Builtin.lenOf, hn, Builtin.firstCells]
  | some a => simp [Builtin.append_, h1', sizeOf, run_typeInfo w h2, Builtin.lenOf, hn, Builtin.firstCells, storeCells]
theorem qaU {T : List (Nat × AV)} {O : List (Nat × Ob)} {t l : Nat} (e : TypeId) (k : Nat) (f : Bool) (ht : lk T t = some (.imm (.slice none 0 0))) (hl : ok O l = none) : Sub c N ⟨T, O⟩ ⟨(t, .row l) :: T, (l, .rowd e k f []) :: O⟩ := by
  rintro a w ⟨ρ, S, hc⟩
  have hev := hc.T t _ ht
  simp only [Rep] at hev
  have h1 : Conc c N ⟨T, (l, .rowd e k f []) :: O⟩ a w (upd ρ l (.slice none 0 0)) S :=
    hc.addOb hl (fun b hb => by simp [blk] at hb) ⟨by simp, [], by rw [qb1]; exact World.ownsRow_nil w 0 e k, by simp, by simp [lift, RepL]⟩
  refine ⟨_, S, { h1 with T := fun s v hs => ?_ }⟩
  simp only [qcd] at hs
  split at hs
  · rename_i e'; subst e'
    simp only [Option.some.injEq] at hs; subst hs
    simp only [Rep]
    exact ⟨by simp [St.U, qa3], by rw [qb1]; exact hev, _, _, _, hev⟩
  · exact h1.T s v hs
theorem sub_nil_dat {T : List (Nat × AV)} {O : List (Nat × Ob)} {t : Nat} (k : Nat) (f : Bool) (ht : lk T t = some (.imm (.slice none 0 0))) : Sub c N ⟨T, O⟩ ⟨(t, .dat f k []) :: T, O⟩ := by
  rintro a w ⟨ρ, S, hc⟩
  have hev := hc.T t _ ht
  simp only [Rep] at hev
  refine ⟨ρ, S, { hc with tm := hc.tm, T := fun s v hs => ?_ }⟩
  simp only [qcd] at hs
  split at hs
  · rename_i e'; subst e'
    simp only [Option.some.injEq] at hs; subst hs
    simp only [Rep, RepD]
    exact ⟨none, 0, 0, hev, by simp, Nat.le_refl _, Nat.zero_le _, .inl rfl⟩
  · exact hc.T s v hs
mutual
def AV.fr (l : Nat) (d : AV) : AV → AV
  | .row m => if m = l then d else .row m
  | .agg cs => .agg (AV.frs l d cs)
  | .fn f cs => .fn f (AV.frs l d cs)
  | .tup cs => .tup (AV.frs l d cs)
  | v => v
def AV.frs (l : Nat) (d : AV) : List AV → List AV
  | [] => []
  | v :: vs => AV.fr l d v :: AV.frs l d vs
end
theorem repEs_row {w : World} {ρ : Nat → Value} {S : Bool → Nat → Prop} {U : Nat → Prop} {f : Bool} {b k : Nat} (hsl : ∀ v u : Value, True) : ∀ {es : List (List D)} {off : Nat} {xs : List Value}, (∀ d ∈ es, d.length = k) → RepL w ρ S U (lift f es.flatten) xs → (∀ y ∈ xs, y.oneCell' = true) →
    (∀ j u, xs[j]? = some u → w.cell? ⟨b, off + j, none⟩ = some u) → qch w f (S f) b k off es
  | [], off, xs, _, _, _, _ => by simp [qch]
  | e :: es, off, xs, hk, hr, h1, hc => by
    have he : e.length = k := hk e (by simp)
    have cells : ∀ {ds : List D} {off : Nat} {xs : List Value}, RepL w ρ S U (lift f ds) xs → (∀ y ∈ xs, y.oneCell' = true) → (∀ j u, xs[j]? = some u → w.cell? ⟨b, off + j, none⟩ = some u) → qbE w f (S f) b off ds := by
      intro ds
      induction ds with
      | nil => intro off xs _ _ _; simp [qbE]
      | cons d ds ih =>
        intro off xs h h1 hc
        simp only [lift, List.map_cons, RepL] at h
        obtain ⟨y, ys, rfl, hy, hys⟩ := h
        simp only [qbE]
        refine ⟨⟨y, by simpa using hc 0 y (by simp), h1 y (by simp), ?_⟩, ih hys (fun z hz => h1 z (by simp [hz])) (fun j u hu => by rw [show off + 1 + j = off + (j + 1) from by omega]; exact hc (j + 1) u (by simpa using hu))⟩
        cases d with
        | imm v => simpa [D.av, Rep, RepD] using hy
        | sl k es => simpa [D.av, Rep] using hy
    have h8 : lift f (e :: es).flatten = lift f e ++ lift f es.flatten := by simp [lift]
    have hlen := hr.length
    have ht := hr.take k
    have hd := hr.drop k
    have hle : (lift f e).length = k := by simp [lift, he]
    rw [h8, List.take_append_of_le_length (by omega), List.take_of_length_le (by omega)] at ht
    rw [h8, List.drop_append, List.drop_eq_nil_of_le (by omega), hle, Nat.sub_self, List.drop_zero, List.nil_append] at hd
    simp only [qch]
    refine ⟨⟨he, cells ht (fun y hy => h1 y (List.mem_of_mem_take hy)) (fun j u hu => ?_)⟩, repEs_row hsl (fun d hd' => hk d (by simp [hd'])) hd (fun y hy => h1 y (List.mem_of_mem_drop hy)) (fun j u hu => ?_)⟩
    · rw [List.getElem?_take] at hu
      split at hu
      · exact hc j u hu
      · simp at hu
    · rw [List.getElem?_drop] at hu
      rw [show off + k + j = off + (k + j) from by omega]
      exact hc (k + j) u hu
mutual
theorem Rep.fr {w : World} {ρ : Nat → Value} {S S' : Bool → Nat → Prop} {U : Nat → Prop} {l : Nat} {d : AV} (hS : ∀ f b, S f b → S' f b) (hd : U l → Rep w ρ S' U d (ρ l)) : ∀ (v : AV) (x : Value), Rep w ρ S U v x → Rep w ρ S' U (AV.fr l d v) x
  | .row m, x, h => by
    simp only [AV.fr]
    split
    · rename_i e; subst e
      simp only [Rep] at h
      rw [h.2.1]; exact hd h.1
    · exact h.mono hS (fun _ _ _ => rfl) (fun _ h => h) (fun _ _ => rfl)
  | .agg cs, x, h => by
    simp only [AV.fr, Rep] at h ⊢
    obtain ⟨xs, hx, h1, h⟩ := h
    exact ⟨xs, hx, h1, RepL.fr hS hd cs xs h⟩
  | .fn f cs, x, h => by
    simp only [AV.fr, Rep] at h ⊢
    obtain ⟨xs, hx, h⟩ := h
    exact ⟨xs, hx, RepL.fr hS hd cs xs h⟩
  | .tup cs, x, h => by
    simp only [AV.fr, Rep] at h ⊢
    obtain ⟨xs, hx, h⟩ := h
    exact ⟨xs, hx, RepL.fr hS hd cs xs h⟩
  | .any, x, h => h.mono hS (fun _ _ _ => rfl) (fun _ h => h) (fun _ _ => rfl)
  | .imm v, x, h => h.mono hS (fun _ _ _ => rfl) (fun _ h => h) (fun _ _ => rfl)
  | .dat f k es, x, h => h.mono hS (fun _ _ _ => rfl) (fun _ h => h) (fun _ _ => rfl)
  | .ptr m off, x, h => h.mono hS (fun _ _ _ => rfl) (fun _ h => h) (fun _ _ => rfl)
  | .elp f ds, x, h => h.mono hS (fun _ _ _ => rfl) (fun _ h => h) (fun _ _ => rfl)
  | .map m, x, h => h.mono hS (fun _ _ _ => rfl) (fun _ h => h) (fun _ _ => rfl)
  | .vw m off n c, x, h => h.mono hS (fun _ _ _ => rfl) (fun _ h => h) (fun _ _ => rfl)
theorem RepL.fr {w : World} {ρ : Nat → Value} {S S' : Bool → Nat → Prop} {U : Nat → Prop} {l : Nat} {d : AV} (hS : ∀ f b, S f b → S' f b) (hd : U l → Rep w ρ S' U d (ρ l)) : ∀ (vs : List AV) (xs : List Value), RepL w ρ S U vs xs → RepL w ρ S' U (AV.frs l d vs) xs
  | [], xs, h => by simpa [AV.frs, RepL] using h
  | v :: vs, xs, h => by
    simp only [AV.frs, RepL] at h ⊢
    obtain ⟨y, ys, hx, h1, h2⟩ := h
    exact ⟨y, ys, hx, Rep.fr hS hd v y h1, RepL.fr hS hd vs ys h2⟩
end
def frT (l : Nat) (d : AV) : List (Nat × AV) → List (Nat × AV)
  | [] => []
  | (t, v) :: T => (t, AV.fr l d v) :: frT l d T
theorem lk_frT (l : Nat) (d : AV) : ∀ (T : List (Nat × AV)) (t : Nat), lk (frT l d T) t = (lk T t).map (AV.fr l d)
  | [], t => rfl
  | (s, v) :: T, t => by
    simp only [frT, qcd]
    split
    · rfl
    · exact lk_frT l d T t
def Ob.frO (l : Nat) (d : AV) : Ob → Ob
  | .box cs => .box (AV.frs l d cs)
  | .row e k cs => .row e k (AV.frs l d cs)
  | o => o
def frO (l : Nat) (d : AV) : List (Nat × Ob) → List (Nat × Ob)
  | [] => []
  | (t, v) :: T => (t, v.frO l d) :: frO l d T
theorem ok_frO (l : Nat) (d : AV) : ∀ (T : List (Nat × Ob)) (t : Nat), ok (frO l d T) t = (ok T t).map (Ob.frO l d)
  | [], t => rfl
  | (s, v) :: T, t => by
    simp only [frO, qa3]
    split
    · rfl
    · exact ok_frO l d T t
theorem qa4 {T T' : List (Nat × AV)} {O O' : List (Nat × Ob)} {l k : Nat} {e : TypeId} {f : Bool} {es : List (List D)} (hl : ok O l = some (.rowd e k f es)) (hk : 0 < k) (hL : ¬ c.L l) (hT' : frT l (.dat f k es) T = T') (hO' : frO l (.dat f k es) O = O') (hz : f = true → Zsz e = k := by first | (intro h; cases h; done) | (intro _; kernel_rfl)) : Sub c N ⟨T, O⟩ ⟨T', (l, .dead) :: O'⟩ := by
  rintro a w ⟨ρ, S, hc⟩
  subst hT'; subst hO'
  obtain ⟨hes, xs, how, h1, hr⟩ := hc.O l _ hl
  let S' : Bool → Nat → Prop := fun g b => S g b ∨ (g = f ∧ blk (ρ l) = some b)
  have hS : ∀ g b, S g b → S' g b := fun g b h => .inl h
  have hdat : Rep w ρ S' (St.U ⟨T, O⟩) (.dat f k es) (ρ l) := by
    simp only [Rep, RepD]
    rcases how.2 with ⟨hv, hn⟩ | ⟨g, cap, cur, hv, _, hh, hcap, hmax, _⟩
    · exact ⟨none, 0, 0, hv, hn.symm, Nat.le_refl _, Nat.zero_le _, .inl rfl⟩
    · refine ⟨some ⟨g, 0, none⟩, es.length, cap, hv, rfl, hcap, hmax, .inr ⟨g, 0, rfl, .inr ⟨rfl, by rw [hv]; rfl⟩, fun hf => ⟨Nat.zero_mod _, _, _, _, hh, hz hf⟩, ?_⟩⟩
      have := repEs_row (b := g) (fun _ _ => trivial) (off := 0) hes (hr.mono hS (fun _ _ _ => rfl) (fun _ h => h) (fun _ _ => rfl)) h1 (fun j u hu => by rw [Nat.zero_add]; exact qcq how (by rw [hv]; rfl) j u hu)
      exact this
  have hUF : ∀ b, S' true b → S true b ∨ ∃ cur ty, w.heap[b]? = some (.cells cur ty (0, 0)) := fun b h => h.imp id fun ⟨_, hb⟩ => by
    rcases how.2 with ⟨hv, _⟩ | ⟨g, cap, cur, hv, _, hh, _⟩
    · rw [hv] at hb; simp [blk] at hb
    · rw [hv] at hb; simp only [blk, Option.some.injEq] at hb; subst hb; exact ⟨_, _, hh⟩
  have hU : ∀ m, St.U ⟨T, O⟩ m → St.U ⟨frT l (.dat f k es) T, (l, .dead) :: frO l (.dat f k es) O⟩ m := fun m hm => by
    simp only [St.U, qa3, ok_frO] at hm ⊢
    split
    · rfl
    · simpa using hm
  have hsp : ∀ m om, ok ((l, Ob.dead) :: frO l (.dat f k es) O) m = some om → (m = l ∧ om = .dead) ∨ (m ≠ l ∧ ∃ om', ok O m = some om' ∧ om = om'.frO l (.dat f k es)) := fun m om hm => by
    rw [qa3] at hm
    split at hm
    · rename_i e; exact .inl ⟨e.symm, by simpa using hm.symm⟩
    · rename_i e
      rw [ok_frO] at hm
      obtain ⟨om', h2, h3⟩ := Option.map_eq_some_iff.1 hm
      exact .inr ⟨fun e' => e e'.symm, om', h2, h3.symm⟩
  have hlv : ∀ om : Ob, (om.frO l (.dat f k es)).live → om.live := fun om h => by cases om <;> exact h
  have hblk : ∀ b, blk (ρ l) = some b → c.w0.heap.size ≤ b ∧ b < w.heap.size := fun b hb => by
    refine ⟨?_, hc.lt l _ b hl trivial hb⟩
    rcases hc.wr l _ b hl trivial hb with h | h
    · exact h
    · exact absurd h.1 hL
  refine ⟨ρ, S', ⟨hc.tm, hc.df, fun t v ht => ?_, fun m om hm => ?_, fun m m' om om' b h2 h3 h4 h5 h6 h7 => ?_, fun m om b g h2 h3 h4 => ?_, fun m om b h2 h3 h4 => ?_, fun m om b h2 h3 h4 => ?_, ?_, ?_, ?_, ?_, fun m hm => ?_, hc.fm.mono (fun g b h => ⟨g, hS g b h⟩) hUF⟩⟩
  · rw [show (St.mk (frT l (.dat f k es) T) ((l, .dead) :: frO l (.dat f k es) O)).T = frT l (.dat f k es) T from rfl, lk_frT] at ht
    obtain ⟨v0, hv0, rfl⟩ := Option.map_eq_some_iff.1 ht
    exact ((hc.T t v0 hv0).fr hS (fun _ => hdat)).mono (fun _ _ h => h) (fun _ _ _ => rfl) hU (fun _ _ => rfl)
  · rcases hsp m om hm with ⟨_, rfl⟩ | ⟨hne, om', h2, rfl⟩
    · trivial
    · have hob := hc.O m om' h2
      cases om' with
      | box cs =>
        obtain ⟨b, ty, ys, h3, h4, h5, h6⟩ := hob
        exact ⟨b, ty, ys, h3, h4, h5, (RepL.fr hS (fun _ => hdat) _ _ h6).mono (fun _ _ h => h) (fun _ _ _ => rfl) hU (fun _ _ => rfl)⟩
      | row e k cs =>
        obtain ⟨n, ys, h3, h4, h5⟩ := hob
        exact ⟨n, ys, h3, h4, (RepL.fr hS (fun _ => hdat) _ _ h5).mono (fun _ _ h => h) (fun _ _ _ => rfl) hU (fun _ _ => rfl)⟩
      | rowd e k f es => exact hob.mono hS (fun _ _ _ => rfl) hU (fun _ _ => rfl) (by simp [St.U, h2]) (fun _ _ => rfl)
      | mp P k ks => exact hob.mono hS (fun _ _ _ => rfl) hU (fun _ _ => rfl) (by simp [St.U, h2]) (fun _ _ => rfl)
      | arr e k f es => exact hob.mono hS (fun _ _ _ => rfl) hU (fun _ _ => rfl) (by simp [St.U, h2]) (fun _ _ => rfl)
      | mx it P k kvs cur => exact hob.mono hS (fun _ _ _ => rfl) hU (fun _ _ => rfl) (by simp [St.U, h2]) (fun _ _ => rfl)
      | dead => trivial
  · rcases hsp m om h2 with ⟨_, rfl⟩ | ⟨n1, o1, k1, rfl⟩
    · exact h4.elim
    · rcases hsp m' om' h3 with ⟨_, rfl⟩ | ⟨n2, o2, k2, rfl⟩
      · exact h5.elim
      · exact hc.dj m m' o1 o2 b k1 k2 (hlv _ h4) (hlv _ h5) h6 h7
  · rcases hsp m om h2 with ⟨_, rfl⟩ | ⟨n1, o1, k1, rfl⟩
    · exact h3.elim
    · rintro (h5 | ⟨_, h5⟩)
      · exact hc.dS m o1 b g k1 (hlv _ h3) h4 h5
      · exact n1 (hc.dj m l o1 _ b k1 hl (hlv _ h3) trivial h4 h5)
  · rcases hsp m om h2 with ⟨_, rfl⟩ | ⟨n1, o1, k1, rfl⟩
    · exact h3.elim
    · exact hc.wr m o1 b k1 (hlv _ h3) h4
  · rcases hsp m om h2 with ⟨_, rfl⟩ | ⟨n1, o1, k1, rfl⟩
    · exact h3.elim
    · exact hc.lt m o1 b k1 (hlv _ h3) h4
  · rintro b ⟨h2 | ⟨e1, h2⟩, h3 | ⟨e2, h3⟩⟩
    · exact hc.SS b ⟨h2, h3⟩
    · exact hc.dS l _ b true hl trivial h3 h2
    · exact hc.dS l _ b false hl trivial h2 h3
    · rw [← e1] at e2; cases e2
  · rintro g b (h2 | ⟨_, h2⟩)
    · exact hc.Sb g b h2
    · exact (hblk b h2).2
  · rintro b (h2 | ⟨_, h2⟩)
    · exact hc.Sn b h2
    · exact .inr (hblk b h2).1
  · rintro b (h2 | ⟨_, h2⟩)
    · exact hc.So b h2
    · exact .inr (hblk b h2).1
  · obtain ⟨h2, h3⟩ := hc.lo m hm
    exact ⟨hU m h2, h3⟩
end
end Go.Proofs.YtpgceiijoedppaaGreat

namespace Go.Proofs.YtpgceiijoedppaaGreat
open Go
section
variable {P : Program} {c : Ctx} {N : Nat} {Q : Exit → St → Prop} {σ : St} {o : Oper}
def binI (op : BinOp) (k : IntKind) (a b : Int) : Option Value :=
  match op with
  | .add => some (.int k (k.wrap (a + b)))
  | .sub => some (.int k (k.wrap (a - b)))
  | .mul => some (.int k (k.wrap (a * b)))
  | .quo => if b = 0 then none else some (.int k (k.wrap (a.tdiv b)))
  | .rem => if b = 0 then none else some (.int k (a.tmod b))
  | .eql => some (.bool (a == b))
  | .neq => some (.bool (a != b))
  | .lss => some (.bool (decide (a < b)))
  | .leq => some (.bool (decide (a ≤ b)))
  | .gtr => some (.bool (decide (a > b)))
  | .geq => some (.bool (decide (a ≥ b)))
  | _ => none
theorem qj {op : BinOp} {t t' : TypeId} {x y : Operand} {k : IntKind} {a b : Int} {r : Value} (ho : o.op = .binOp op t x y t') (hx : ev σ.T x = some (.imm (.int k a))) (hy : ev σ.T y = some (.imm (.int k b))) (hr : binI op k a b = some r) : Stp P c N o σ [] (.imm r) [] := by
  refine qaH fun σ' h1 _ s w ρ S hc => ⟨r, ?_, by simp [Rep]⟩
  have hx' := qaF hc (h1 x (by simp [ho, Op.operands]) _ hx)
  have hy' := qaF hc (h1 y (by simp [ho, Op.operands]) _ hy)
  simp only [Rep] at hx' hy'
  simp only [execOp, ho, hx', hy']
  cases op <;> simp only [binI, Option.some.injEq, reduceCtorEq] at hr <;> first
    | exact hr.elim
    | (subst hr; simp [Sem.run_bind, eqGuard, binOp, Op.intArith, Op.intCmp]; done)
    | (split at hr <;> simp only [Option.some.injEq, reduceCtorEq] at hr; rename_i h0; subst hr; simp [Sem.run_bind, eqGuard, binOp, Op.intDiv, h0])
theorem wrap_in {n : Int} (h : -9223372036854775808 ≤ n ∧ n ≤ 9223372036854775807) : IntKind.i64.wrap n = n := by
  simp only [IntKind.wrap, IntKind.signed, IntKind.bits]
  by_cases h0 : 0 ≤ n
  · have : n % (2 ^ 64 : Int) = n := Int.emod_eq_of_lt h0 (by omega)
    simp only [this]
    split
    · rename_i h1; simp at h1; omega
    · rfl
  · have : n % (2 ^ 64 : Int) = n + 2 ^ 64 := by
      rw [← Int.add_emod_right]
      exact Int.emod_eq_of_lt (by omega) (by omega)
    simp only [this]
    split
    · omega
    · rename_i h1; simp at h1; omega
theorem qJ {t t' : TypeId} {x y : Operand} {a b : Int} (ho : o.op = .binOp .add t x y t') (hx : ev σ.T x = some (.imm (.int .i64 a))) (hy : ev σ.T y = some (.imm (.int .i64 b))) (hb : -9223372036854775808 ≤ a + b ∧ a + b ≤ 9223372036854775807) : Stp P c N o σ [] (.imm (.int .i64 (a + b))) [] :=
  qj ho hx hy (by simp only [binI, wrap_in hb])
theorem qa0 {t t' : TypeId} {x y : Operand} {a b : Int} (ho : o.op = .binOp .sub t x y t') (hx : ev σ.T x = some (.imm (.int .i64 a))) (hy : ev σ.T y = some (.imm (.int .i64 b))) (hb : -9223372036854775808 ≤ a - b ∧ a - b ≤ 9223372036854775807) : Stp P c N o σ [] (.imm (.int .i64 (a - b))) [] :=
  qj ho hx hy (by simp only [binI, wrap_in hb])
theorem stp_mul {t t' : TypeId} {x y : Operand} {a b : Int} (ho : o.op = .binOp .mul t x y t') (hx : ev σ.T x = some (.imm (.int .i64 a))) (hy : ev σ.T y = some (.imm (.int .i64 b))) (hb : -9223372036854775808 ≤ a * b ∧ a * b ≤ 9223372036854775807) : Stp P c N o σ [] (.imm (.int .i64 (a * b))) [] :=
  qj ho hx hy (by simp only [binI, wrap_in hb])
def binS (op : BinOp) (a b : ByteArray) : Option Value :=
  match op with
  | .add => if a.size + b.size ≤ 9223372036854775807 then some (.string (a ++ b)) else none
  | .eql => some (.bool (a.toList == b.toList))
  | .neq => some (.bool !(a.toList == b.toList))
  | .lss => some (.bool (Op.bytesLess a.toList b.toList))
  | .leq => some (.bool (Op.bytesLess a.toList b.toList || a.toList == b.toList))
  | .gtr => some (.bool !(Op.bytesLess a.toList b.toList || a.toList == b.toList))
  | .geq => some (.bool !(Op.bytesLess a.toList b.toList))
  | _ => none
theorem qbV {op : BinOp} {t t' : TypeId} {x y : Operand} {a b : ByteArray} {r : Value} (ho : o.op = .binOp op t x y t') (hx : ev σ.T x = some (.imm (.string a))) (hy : ev σ.T y = some (.imm (.string b))) (hr : binS op a b = some r) : Stp P c N o σ [] (.imm r) [] := by
  refine qaH fun σ' h1 _ s w ρ S hc => ⟨r, ?_, by simp [Rep]⟩
  have hx' := qaF hc (h1 x (by simp [ho, Op.operands]) _ hx)
  have hy' := qaF hc (h1 y (by simp [ho, Op.operands]) _ hy)
  simp only [Rep] at hx' hy'
  simp only [execOp, ho, hx', hy']
  cases op <;> simp only [binS, Option.some.injEq, reduceCtorEq] at hr <;> first
    | exact hr.elim
    | (subst hr; simp [Sem.run_bind, eqGuard, binOp, Op.stringOp]; done)
    | (split at hr <;> simp only [Option.some.injEq, reduceCtorEq] at hr; rename_i h0; subst hr; simp [Sem.run_bind, eqGuard, binOp, run_string_add_sum, h0])
theorem stp_neB {t t' : TypeId} {x y : Operand} {a b : Bool} (ho : o.op = .binOp .neq t x y t') (ht : P.underlying t = some .bool) (hx : ev σ.T x = some (.imm (.bool a))) (hy : ev σ.T y = some (.imm (.bool b))) : Stp P c N o σ [] (.imm (.bool (!(a == b)))) [] := by
  refine qaH fun σ' h1 _ s w ρ S hc => ⟨_, ?_, by simp only [Rep]; rfl⟩
  have hx' := qaF hc (h1 x (by simp [ho, Op.operands]) _ hx)
  have hy' := qaF hc (h1 y (by simp [ho, Op.operands]) _ hy)
  simp only [Rep] at hx' hy'
  simp only [execOp, ho, hx', hy']
  simp [Sem.run_bind, eqGuard, run_neq_bool w t a b ht]
theorem qal {t : TypeId} {x : Operand} {b : Bool} (ho : o.op = .unOp .not t x) (hx : ev σ.T x = some (.imm (.bool b))) : Stp P c N o σ [] (.imm (.bool !b)) [] := by
  refine qaH fun σ' h1 _ s w ρ S hc => ⟨_, ?_, by simp only [Rep]; rfl⟩
  have hx' := qaF hc (h1 x (by simp [ho, Op.operands]) _ hx)
  simp only [Rep] at hx'
  simp only [execOp, ho, hx']
  simp [Sem.run_bind, Op.unary]
theorem stp_neg {t : TypeId} {x : Operand} {a : Int} (ho : o.op = .unOp .neg t x) (hx : ev σ.T x = some (.imm (.int .i64 a))) (hb : -9223372036854775808 ≤ -a ∧ -a ≤ 9223372036854775807) : Stp P c N o σ [] (.imm (.int .i64 (-a))) [] := by
  refine qaH fun σ' h1 _ s w ρ S hc => ⟨_, ?_, by simp only [Rep]; rfl⟩
  have hx' := qaF hc (h1 x (by simp [ho, Op.operands]) _ hx)
  simp only [Rep] at hx'
  simp only [execOp, ho, hx']
  simp [Sem.run_bind, Op.unary, Op.intArith, wrap_in hb]
theorem stp_conv {s d : TypeId} {x : Operand} {q k : IntKind} {a : Int} (ho : o.op = .convert s d x) (hs : (P.underlying s).isSome = true) (hd : P.underlying d = some (.int k)) (hx : ev σ.T x = some (.imm (.int q a))) : Stp P c N o σ [] (.imm (.int k (k.wrap a))) [] := by
  refine qaH fun σ' h1 _ st w ρ S hc => ⟨_, ?_, by simp only [Rep]; rfl⟩
  have hx' := qaF hc (h1 x (by simp [ho, Op.operands]) _ hx)
  simp only [Rep] at hx'
  obtain ⟨ds, hds⟩ := Option.isSome_iff_exists.1 hs
  simp only [execOp, ho, hx', convert]
  simp [Sem.run_bind, run_underlying hds w, run_underlying hd w, Conv.intToInt]
theorem qc9 {t : TypeId} {x : Operand} {s : ByteArray} (ho : o.op = .call { callee := .builtin .len, args := #[x], argTypes := #[t] }) (ht : P.underlying t = some .string) (hx : ev σ.T x = some (.imm (.string s))) : Stp P c N o σ [] (.imm (.int .i64 s.size)) [] := by
  refine qaH fun σ' h1 _ st w ρ S hc => ⟨_, ?_, by simp only [Rep]; rfl⟩
  have hx' := qaF hc (h1 x (by simp [ho, Op.operands, Call.operands]) _ hx)
  simp only [Rep] at hx'
  simp only [execOp, ho, resolve]
  simp [Sem.run_bind, invoke, builtin, hx', Builtin.len_, run_underlying ht w, goInt]
theorem qu {t : TypeId} {x : Operand} {f : Bool} {k : Nat} {es : List (List D)} {e : TypeId} (ho : o.op = .call { callee := .builtin .len, args := #[x], argTypes := #[t] }) (ht : slB P t e k = true) (hx : ev σ.T x = some (.dat f k es)) : Stp P c N o σ [] (.imm (.int .i64 es.length)) [] := by
  refine qaH fun σ' h1 _ st w ρ S hc => ⟨_, ?_, by simp only [Rep]; rfl⟩
  have hx' := qaF hc (h1 x (by simp [ho, Op.operands, Call.operands]) _ hx)
  simp only [Rep, RepD] at hx'
  obtain ⟨A, n, cc, hxe, rfl, _⟩ := hx'
  obtain ⟨i, h2, _⟩ := qcK ht
  simp only [execOp, ho, resolve]
  simp [Sem.run_bind, invoke, builtin, hxe, Builtin.len_, run_underlying h2 w, goInt]
theorem stp_len_nil {t : TypeId} {x : Operand} {e : TypeId} {k : Nat} (ho : o.op = .call { callee := .builtin .len, args := #[x], argTypes := #[t] }) (ht : slB P t e k = true) (hx : ev σ.T x = some (.imm (.slice none 0 0))) : Stp P c N o σ [] (.imm (.int .i64 0)) [] := by
  refine qaH fun σ' h1 _ st w ρ S hc => ⟨_, ?_, by simp only [Rep]; rfl⟩
  have hx' := qaF hc (h1 x (by simp [ho, Op.operands, Call.operands]) _ hx)
  simp only [Rep] at hx'
  obtain ⟨i, h2, _⟩ := qcK ht
  simp only [execOp, ho, resolve]
  simp [Sem.run_bind, invoke, builtin, hx', Builtin.len_, run_underlying h2 w, goInt]
theorem qcJ {t : TypeId} {x : Operand} {f : Bool} {k l : Nat} {es : List (List D)} {e : TypeId} (ho : o.op = .call { callee := .builtin .len, args := #[x], argTypes := #[t] }) (ht : slB P t e k = true) (hx : ev σ.T x = some (.row l)) (hl : ok σ.O l = some (.rowd e k f es)) : Stp P c N o σ [l] (.imm (.int .i64 es.length)) [] := by
  refine qaH fun σ' h1 h2 st w ρ S hc => ⟨_, ?_, by simp only [Rep]; rfl⟩
  have hx' := qaF hc (h1 x (by simp [ho, Op.operands, Call.operands]) _ hx)
  simp only [Rep] at hx'
  obtain ⟨_, xs, how, _⟩ := hc.O l _ (h2 l (by simp) _ hl)
  obtain ⟨i, h3, _⟩ := qcK ht
  have hv : ∃ A cc, ρ l = .slice A es.length cc := by
    rcases how.2 with ⟨h, h'⟩ | ⟨g, cap, cur, h, _⟩
    · exact ⟨none, 0, by rw [h, h']⟩
    · exact ⟨_, _, h⟩
  obtain ⟨A, cc, hv⟩ := hv
  rw [hv] at hx'
  simp only [execOp, ho, resolve]
  simp [Sem.run_bind, invoke, builtin, hx'.2.1, Builtin.len_, run_underlying h3 w, goInt]
def qcT (s : ByteArray) (i : Int) : Int := ((s.data.toList.getD i.toNat 0).toNat : Int)
theorem qdR {t : TypeId} {x y : Operand} {s : ByteArray} {q : IntKind} {i : Int} (ho : o.op = .index t x y) (ht : P.underlying t = some .string) (hx : ev σ.T x = some (.imm (.string s))) (hy : ev σ.T y = some (.imm (.int q i))) (h0 : 0 ≤ i) (h1 : i < s.size) : Stp P c N o σ [] (.imm (.int .u8 (qcT s i))) [] := by
  refine qaH fun σ' h2 _ st w ρ S hc => ⟨_, ?_, by simp only [Rep]; rfl⟩
  have hx' := qaF hc (h2 x (by simp [ho, Op.operands]) _ hx)
  have hy' := qaF hc (h2 y (by simp [ho, Op.operands]) _ hy)
  simp only [Rep] at hx' hy'
  have hlt : i.toNat < s.size := by omega
  have hg : s[i.toNat]? = some (s[i.toNat]'hlt) := by simp [hlt]
  have hb : ((s[i.toNat]'hlt).toNat : Int) = qcT s i := by
    unfold qcT
    congr 1
    have h3 : i.toNat < s.data.size := hlt
    rw [List.getD_eq_getElem?_getD, List.getElem?_eq_getElem (by simpa using h3), Option.getD_some]
    rfl
  simp only [execOp, ho, hx', hy', Instr.index]
  simp [Sem.run_bind, asIntOf, run_underlying ht w, h0, hlt, hb]
theorem stp_max {ts : Array TypeId} {x y : Operand} {a b : Int} (ho : o.op = .call { callee := .builtin .max, args := #[x, y], argTypes := ts }) (hx : ev σ.T x = some (.imm (.int .i64 a))) (hy : ev σ.T y = some (.imm (.int .i64 b))) : Stp P c N o σ [] (.imm (.int .i64 (if b > a then b else a))) [] := by
  refine qaH fun σ' h1 _ st w ρ S hc => ⟨_, ?_, by simp only [Rep]; rfl⟩
  have hx' := qaF hc (h1 x (by simp [ho, Op.operands, Call.operands]) _ hx)
  have hy' := qaF hc (h1 y (by simp [ho, Op.operands, Call.operands]) _ hy)
  simp only [Rep] at hx' hy'
  simp only [execOp, ho, resolve]
  simp [Sem.run_bind, invoke, builtin, hx', hy', run_max_int2]
theorem stp_min {ts : Array TypeId} {x y : Operand} {a b : Int} (ho : o.op = .call { callee := .builtin .min, args := #[x, y], argTypes := ts }) (hx : ev σ.T x = some (.imm (.int .i64 a))) (hy : ev σ.T y = some (.imm (.int .i64 b))) : Stp P c N o σ [] (.imm (.int .i64 (if b < a then b else a))) [] := by
  refine qaH fun σ' h1 _ st w ρ S hc => ⟨_, ?_, by simp only [Rep]; rfl⟩
  have hx' := qaF hc (h1 x (by simp [ho, Op.operands, Call.operands]) _ hx)
  have hy' := qaF hc (h1 y (by simp [ho, Op.operands, Call.operands]) _ hy)
  simp only [Rep] at hx' hy'
  simp only [execOp, ho, resolve]
  simp [Sem.run_bind, invoke, builtin, hx', hy', run_min_int2]
theorem repEs_drop {w : World} {F : Bool} {S : Nat → Prop} {b k : Nat} : ∀ (i : Nat) {off : Nat} {es : List (List D)}, qch w F S b k off es → qch w F S b k (off + i * k) (es.drop i)
  | 0, off, es, h => by simpa using h
  | i + 1, off, [], h => by simp [qch]
  | i + 1, off, e :: es, h => by
    simp only [qch] at h
    have := repEs_drop i h.2
    rw [show off + (i + 1) * k = off + k + i * k from by rw [Nat.add_mul]; omega]
    simpa using this
theorem repEs_take {w : World} {F : Bool} {S : Nat → Prop} {b k : Nat} : ∀ (i : Nat) {off : Nat} {es : List (List D)}, qch w F S b k off es → qch w F S b k off (es.take i)
  | 0, off, es, h => by simp [qch]
  | i + 1, off, [], h => by simp [qch]
  | i + 1, off, e :: es, h => by
    simp only [qch] at h
    simp only [List.take_succ_cons, qch]
    exact ⟨h.1, repEs_take i h.2⟩
theorem qbz {t e : TypeId} {k : Nat} {x : Operand} {lo hi : Option Operand} {f : Bool} {es : List (List D)} {i j : Int} (ho : o.op = .slice t x lo hi none) (ht : slB P t e k = true) (hx : ev σ.T x = some (.dat f k es))
    (hlo : ∀ y, lo = some y → ev σ.T y = some (.imm (.int .i64 i))) (hlo' : lo = none → i = 0) (hhi : ∀ y, hi = some y → ev σ.T y = some (.imm (.int .i64 j))) (hhi' : hi = none → j = es.length) (h0 : 0 ≤ i) (h1 : i ≤ j) (h2 : j ≤ es.length) : Stp P c N o σ [] (.dat f k ((es.take j.toNat).drop i.toNat)) [] := by
  refine qaH fun σ' h3 _ st w ρ S hc => ?_
  have hx' := qaF hc (h3 x (by simp [ho, Op.operands]) _ hx)
  simp only [Rep, RepD] at hx'
  obtain ⟨A, n, cap, hxe, rfl, hcap, hmax, hr⟩ := hx'
  have hbl : ∀ (y : Operand), lo = some y → st.eval y = .int .i64 i := fun y hy => by
    have := qaF hc (h3 y (by simp [ho, Op.operands, hy]) _ (hlo y hy))
    simpa [Rep] using this
  have hbh : ∀ (y : Operand), hi = some y → st.eval y = .int .i64 j := fun y hy => by
    have := qaF hc (h3 y (by simp [ho, Op.operands, hy]) _ (hhi y hy))
    simpa [Rep] using this
  obtain ⟨it, h4, h5, h6⟩ := qcK ht
  have hb : ∀ (y : Nat) (n : Int) (code : BoundsCode) (w : World), 0 ≤ n → n ≤ y → (Instr.sliceBound (.int .i64 n) y code).run P w = .ok n.toNat w := fun y n code w h h' => run_sliceBound (P := P) w .i64 n y code h h'
  have hbnd : (Instr.sliceBounds true es.length cap (lo.map st.eval) (hi.map st.eval) none).run P w = .ok (i.toNat, j.toNat, cap) w := by
    cases lo with
    | none =>
      have hi0 := hlo' rfl
      subst hi0
      cases hi with
      | none => have := hhi' rfl; subst this; simp [Instr.sliceBounds]
      | some y => simp [Instr.sliceBounds, Sem.run_bind, hbh y rfl, hb cap j _ w (by omega) (by omega)]
    | some z =>
      cases hi with
      | none => have := hhi' rfl; subst this; simp [Instr.sliceBounds, Sem.run_bind, hbl z rfl, hb es.length i _ w h0 h1]
      | some y => simp [Instr.sliceBounds, Sem.run_bind, hbh y rfl, hbl z rfl, hb cap j _ w (by omega) (by omega), hb j.toNat i _ w h0 (by omega)]
  refine ⟨.slice (if cap = i.toNat then A else A.map (·.add (i.toNat * k))) (j.toNat - i.toNat) (cap - i.toNat), ?_, ?_⟩
  · simp only [execOp, ho, hxe, Instr.sliceAt, Option.map_none]
    simp [Sem.run_bind, run_underlying h4 w, Instr.slice, hbnd, sizeOf, run_typeInfo w h5, h6]
  · simp only [Rep, RepD]
    refine ⟨_, _, _, rfl, by simp; omega, by omega, by omega, ?_⟩
    by_cases hz : j.toNat - i.toNat = 0
    · exact .inl hz
    · rcases hr with hr | ⟨b, off, rfl, hS, hal, hr⟩
      · omega
      · right
        rw [if_neg (by omega)]
        refine ⟨b, off + i.toNat * k, by simp [qcH], hS, fun hf => ⟨by rw [Nat.add_mul_mod_self_right]; exact (hal hf).1, (hal hf).2⟩, ?_⟩
        exact repEs_drop i.toNat (repEs_take j.toNat hr)
end
end Go.Proofs.YtpgceiijoedppaaGreat
