/- Plain proof kit of this session: a symbolic heap over the model's worlds: data read by value, objects that a call owns. -/
import Derived.WalkKit
import Derived.Orders
import Derived.Below
import Derived.Maps.Own
import Derived.Maps.Ext
set_option linter.unusedVariables false
set_option linter.unusedSimpArgs false
namespace Go.Proofs.Ytdecgkhdbfgldaa
open Go

/-! ### Data that is read by value: one cell each -/
inductive D where
  | imm (v : Value)
  | sl (k : Nat) (es : List (List D))

mutual
def RepD (w : World) (S : Nat → Prop) : D → Value → Prop
  | .imm v, x => x = v
  | .sl k es, x => ∃ A n c, x = .slice A n c ∧ n = es.length ∧ n ≤ c ∧ c ≤ maxLen ∧ (n = 0 ∨ ∃ b off, A = some ⟨b, off, none⟩ ∧ S b ∧ RepEs w S b k off es)
def RepEs (w : World) (S : Nat → Prop) (b k : Nat) : Nat → List (List D) → Prop
  | _, [] => True
  | off, e :: es => (e.length = k ∧ RepCs w S b off e) ∧ RepEs w S b k (off + k) es
def RepCs (w : World) (S : Nat → Prop) (b : Nat) : Nat → List D → Prop
  | _, [] => True
  | off, d :: ds => (∃ v, w.cell? ⟨b, off, none⟩ = some v ∧ v.oneCell' = true ∧ RepD w S d v) ∧ RepCs w S b (off + 1) ds
end

/-! ### Values of temporaries and of objects' cells -/
inductive AV where
  | any
  | imm (v : Value)
  | dat (f : Bool) (k : Nat) (es : List (List D))
  | agg (cs : List AV)
  | ptr (l off : Nat)
  | elp (f : Bool) (cs : List D)
  | row (l : Nat)
  | fn (f : FuncId) (caps : List AV)
  | map (l : Nat)
  | tup (vs : List AV)

def blk : Value → Option Nat
  | .pointer (some a) => some a.block
  | .slice (some a) _ _ => some a.block
  | .map (some r) => some r
  | _ => none

mutual
def Rep (w : World) (ρ : Nat → Value) (S : Bool → Nat → Prop) (U : Nat → Prop) : AV → Value → Prop
  | .any, _ => True
  | .imm v, x => x = v
  | .dat f k es, x => RepD w (S f) (.sl k es) x
  | .agg cs, x => ∃ xs : List Value, x = .agg xs.toArray ∧ (∀ y ∈ xs, y.oneCell' = true) ∧ RepL w ρ S U cs xs
  | .ptr l off, x => U l ∧ ∃ b, blk (ρ l) = some b ∧ x = .pointer (some ⟨b, off, none⟩)
  | .elp f cs, x => ∃ b off, x = .pointer (some ⟨b, off, none⟩) ∧ S f b ∧ RepCs w (S f) b off cs
  | .row l, x => U l ∧ x = ρ l ∧ ∃ A n c, x = .slice A n c
  | .fn f caps, x => ∃ xs : List Value, x = .func (.func f) #[] xs.toArray ∧ RepL w ρ S U caps xs
  | .map l, x => U l ∧ x = ρ l ∧ ∃ r, x = .map (some r)
  | .tup vs, x => ∃ xs : List Value, x = .tuple xs.toArray ∧ RepL w ρ S U vs xs
def RepL (w : World) (ρ : Nat → Value) (S : Bool → Nat → Prop) (U : Nat → Prop) : List AV → List Value → Prop
  | [], xs => xs = []
  | a :: as, xs => ∃ y ys, xs = y :: ys ∧ Rep w ρ S U a y ∧ RepL w ρ S U as ys
end

/-! ### What turns not: readings over worlds that are alike where they read -/
mutual
theorem RepD.mono {w w' : World} {S S' : Nat → Prop} (hS : ∀ b, S b → S' b) (hw : ∀ b, S b → w'.heap[b]? = w.heap[b]?) :
    ∀ (d : D) (x : Value), RepD w S d x → RepD w' S' d x
  | .imm v, x, h => by simpa [RepD] using h
  | .sl k es, x, h => by
    simp only [RepD] at h ⊢
    obtain ⟨A, n, c, rfl, hn, hc, hm, h⟩ := h
    refine ⟨A, n, c, rfl, hn, hc, hm, ?_⟩
    rcases h with h | ⟨b, off, hA, hb, h⟩
    · exact .inl h
    · exact .inr ⟨b, off, hA, hS b hb, RepEs.mono hS hw b k hb off es h⟩
theorem RepEs.mono {w w' : World} {S S' : Nat → Prop} (hS : ∀ b, S b → S' b) (hw : ∀ b, S b → w'.heap[b]? = w.heap[b]?) (b k : Nat) (hb : S b) :
    ∀ (off : Nat) (es : List (List D)), RepEs w S b k off es → RepEs w' S' b k off es
  | _, [], _ => by simp [RepEs]
  | off, e :: es, h => by
    simp only [RepEs] at h ⊢
    exact ⟨⟨h.1.1, RepCs.mono hS hw b hb off e h.1.2⟩, RepEs.mono hS hw b k hb (off + k) es h.2⟩
theorem RepCs.mono {w w' : World} {S S' : Nat → Prop} (hS : ∀ b, S b → S' b) (hw : ∀ b, S b → w'.heap[b]? = w.heap[b]?) (b : Nat) (hb : S b) :
    ∀ (off : Nat) (ds : List D), RepCs w S b off ds → RepCs w' S' b off ds
  | _, [], _ => by simp [RepCs]
  | off, d :: ds, h => by
    simp only [RepCs] at h ⊢
    obtain ⟨⟨v, hv, h1, hd⟩, h⟩ := h
    refine ⟨⟨v, ?_, h1, RepD.mono hS hw d v hd⟩, RepCs.mono hS hw b hb (off + 1) ds h⟩
    rw [World.cell?_of_block (w := w) (hw b hb)]
    exact hv
end

mutual
theorem Rep.mono {w w' : World} {ρ ρ' : Nat → Value} {S S' : Bool → Nat → Prop} {U U' : Nat → Prop} (hS : ∀ f b, S f b → S' f b) (hw : ∀ f b, S f b → w'.heap[b]? = w.heap[b]?)
    (hU : ∀ l, U l → U' l) (hρ : ∀ l, U l → ρ' l = ρ l) : ∀ (v : AV) (x : Value), Rep w ρ S U v x → Rep w' ρ' S' U' v x
  | .any, x, _ => by simp [Rep]
  | .imm v, x, h => by simpa [Rep] using h
  | .dat f k es, x, h => by
    simp only [Rep] at h ⊢
    exact RepD.mono (hS f) (hw f) _ _ h
  | .agg cs, x, h => by
    simp only [Rep] at h ⊢
    obtain ⟨xs, hx, h1, h⟩ := h
    exact ⟨xs, hx, h1, RepL.mono hS hw hU hρ cs xs h⟩
  | .ptr l off, x, h => by
    simp only [Rep] at h ⊢
    obtain ⟨hl, b, hb, hx⟩ := h
    exact ⟨hU l hl, b, by rw [hρ l hl]; exact hb, hx⟩
  | .elp f cs, x, h => by
    simp only [Rep] at h ⊢
    obtain ⟨b, off, hx, hb, h⟩ := h
    exact ⟨b, off, hx, hS f b hb, RepCs.mono (hS f) (hw f) b hb off cs h⟩
  | .row l, x, h => by
    simp only [Rep] at h ⊢
    exact ⟨hU l h.1, by rw [hρ l h.1]; exact h.2.1, h.2.2⟩
  | .fn f caps, x, h => by
    simp only [Rep] at h ⊢
    obtain ⟨xs, hx, h⟩ := h
    exact ⟨xs, hx, RepL.mono hS hw hU hρ caps xs h⟩
  | .map l, x, h => by
    simp only [Rep] at h ⊢
    exact ⟨hU l h.1, by rw [hρ l h.1]; exact h.2.1, h.2.2⟩
  | .tup vs, x, h => by
    simp only [Rep] at h ⊢
    obtain ⟨xs, hx, h⟩ := h
    exact ⟨xs, hx, RepL.mono hS hw hU hρ vs xs h⟩
theorem RepL.mono {w w' : World} {ρ ρ' : Nat → Value} {S S' : Bool → Nat → Prop} {U U' : Nat → Prop} (hS : ∀ f b, S f b → S' f b) (hw : ∀ f b, S f b → w'.heap[b]? = w.heap[b]?)
    (hU : ∀ l, U l → U' l) (hρ : ∀ l, U l → ρ' l = ρ l) : ∀ (vs : List AV) (xs : List Value), RepL w ρ S U vs xs → RepL w' ρ' S' U' vs xs
  | [], xs, h => by simpa [RepL] using h
  | v :: vs, xs, h => by
    simp only [RepL] at h ⊢
    obtain ⟨y, ys, hx, h1, h2⟩ := h
    exact ⟨y, ys, hx, Rep.mono hS hw hU hρ v y h1, RepL.mono hS hw hU hρ vs ys h2⟩
end

theorem RepL.length {w : World} {ρ : Nat → Value} {S : Bool → Nat → Prop} {U : Nat → Prop} : ∀ {vs : List AV} {xs : List Value}, RepL w ρ S U vs xs → xs.length = vs.length
  | [], xs, h => by simp only [RepL] at h; simp [h]
  | v :: vs, xs, h => by
    simp only [RepL] at h
    obtain ⟨y, ys, rfl, _, h⟩ := h
    simp [RepL.length h]

theorem RepL.get {w : World} {ρ : Nat → Value} {S : Bool → Nat → Prop} {U : Nat → Prop} : ∀ {vs : List AV} {xs : List Value}, RepL w ρ S U vs xs → ∀ {i : Nat} {v : AV}, vs[i]? = some v → ∃ x, xs[i]? = some x ∧ Rep w ρ S U v x
  | [], xs, h, i, v, hv => by simp at hv
  | a :: vs, xs, h, i, v, hv => by
    simp only [RepL] at h
    obtain ⟨y, ys, rfl, h1, h⟩ := h
    cases i with
    | zero => simp only [List.getElem?_cons_zero, Option.some.injEq] at hv; subst hv; exact ⟨y, by simp, h1⟩
    | succ i => simpa using RepL.get h (i := i) (v := v) (by simpa using hv)

theorem RepL.append {w : World} {ρ : Nat → Value} {S : Bool → Nat → Prop} {U : Nat → Prop} : ∀ {vs us : List AV} {xs ys : List Value}, RepL w ρ S U vs xs → RepL w ρ S U us ys → RepL w ρ S U (vs ++ us) (xs ++ ys)
  | [], us, xs, ys, h, k => by simp only [RepL] at h; simpa [h] using k
  | v :: vs, us, xs, ys, h, k => by
    simp only [RepL] at h
    obtain ⟨y, zs, rfl, h1, h2⟩ := h
    simp only [List.cons_append, RepL]
    exact ⟨y, zs ++ ys, rfl, h1, RepL.append h2 k⟩

theorem RepL.drop {w : World} {ρ : Nat → Value} {S : Bool → Nat → Prop} {U : Nat → Prop} : ∀ (n : Nat) {vs : List AV} {xs : List Value}, RepL w ρ S U vs xs → RepL w ρ S U (vs.drop n) (xs.drop n)
  | 0, vs, xs, h => by simpa using h
  | n + 1, [], xs, h => by simp only [RepL] at h; simp [h, RepL]
  | n + 1, v :: vs, xs, h => by
    simp only [RepL] at h
    obtain ⟨y, zs, rfl, h1, h2⟩ := h
    simpa using RepL.drop n h2

theorem RepL.take {w : World} {ρ : Nat → Value} {S : Bool → Nat → Prop} {U : Nat → Prop} : ∀ (n : Nat) {vs : List AV} {xs : List Value}, RepL w ρ S U vs xs → RepL w ρ S U (vs.take n) (xs.take n)
  | 0, vs, xs, h => by simp [RepL]
  | n + 1, [], xs, h => by simp only [RepL] at h; simp [h, RepL]
  | n + 1, v :: vs, xs, h => by
    simp only [RepL] at h
    obtain ⟨y, zs, rfl, h1, h2⟩ := h
    simp only [List.take_succ_cons, RepL]
    exact ⟨y, zs.take n, rfl, h1, RepL.take n h2⟩

theorem RepL.set {w : World} {ρ : Nat → Value} {S : Bool → Nat → Prop} {U : Nat → Prop} : ∀ (n : Nat) {vs : List AV} {xs : List Value} {v : AV} {x : Value}, RepL w ρ S U vs xs → Rep w ρ S U v x → RepL w ρ S U (vs.set n v) (xs.set n x)
  | n, [], xs, v, x, h, _ => by simp only [RepL] at h; simp [h, RepL]
  | 0, u :: vs, xs, v, x, h, k => by
    simp only [RepL] at h
    obtain ⟨y, zs, rfl, h1, h2⟩ := h
    simp only [List.set_cons_zero, RepL]
    exact ⟨x, zs, rfl, k, h2⟩
  | n + 1, u :: vs, xs, v, x, h, k => by
    simp only [RepL] at h
    obtain ⟨y, zs, rfl, h1, h2⟩ := h
    simp only [List.set_cons_succ, RepL]
    exact ⟨y, zs.set n x, rfl, h1, RepL.set n h2 k⟩

/-- Cells of data as cells of the state. -/
def D.av (f : Bool) : D → AV
  | .imm v => .imm v
  | .sl k es => .dat f k es
def lift (f : Bool) (ds : List D) : List AV := ds.map (D.av f)

/-! ### Objects and states -/
inductive Ob where
  | box (cs : List AV)
  | row (e : TypeId) (k : Nat) (cs : List AV)
  | rowd (e : TypeId) (k : Nat) (f : Bool) (es : List (List D))
  | mp (ss : List ByteArray)
  | dead

structure St where
  T : List (Nat × AV)
  O : List (Nat × Ob)

def lk : List (Nat × AV) → Nat → Option AV
  | [], _ => none
  | (s, v) :: T, t => bif Nat.beq s t then some v else lk T t
def ok : List (Nat × Ob) → Nat → Option Ob
  | [], _ => none
  | (s, v) :: T, t => bif Nat.beq s t then some v else ok T t

def St.U (σ : St) (l : Nat) : Prop := (ok σ.O l).isSome = true
def Ob.live : Ob → Prop
  | .dead => False
  | _ => True

/-- How an element of a set of texts reads. -/
def R1 (v : Value) : Option (DataW Unit × List MemPlace) := match v with
  | .bool true => some (.lit (.bool true), [])
  | _ => none
/-- Block r is a map whose keys are the texts ss, each with true. -/
def MapOk (w : World) (r : Nat) (ss : List ByteArray) : Prop := ∃ (P : Program) (k : TypeId) (n : Nat) (D : DataW Unit), P.underlying k = some .string ∧ w.ownsMap P k R1 r n D ∧ n ≤ ss.length ∧ ∀ s : ByteArray, s ∈ ss ↔ Maps.has D (.string s.data.toList) = true
theorem MapOk.of_block {w w' : World} {r : Nat} {ss : List ByteArray} (hb : w'.heap[r]? = w.heap[r]?) (h : MapOk w r ss) : MapOk w' r ss := by
  obtain ⟨P, k, n, D, h1, ⟨es, clock, h2, h3, h4, h5⟩, h6⟩ := h
  exact ⟨P, k, n, D, h1, ⟨es, clock, by rw [hb]; exact h2, h3, h4, h5⟩, h6⟩

def ObOk (w : World) (ρ : Nat → Value) (S : Bool → Nat → Prop) (U : Nat → Prop) (l : Nat) : Ob → Prop
  | .box cs => ∃ b ty, ∃ xs : List Value, ρ l = .pointer (some ⟨b, 0, none⟩) ∧ w.heap[b]? = some (.cells xs.toArray ty (0, 0)) ∧ (∀ y ∈ xs, y.oneCell' = true) ∧ RepL w ρ S U cs xs
  | .row e k cs => ∃ n, ∃ xs : List Value, w.ownsRow 0 e k (ρ l) n xs ∧ (∀ y ∈ xs, y.oneCell' = true) ∧ RepL w ρ S U cs xs
  | .rowd e k f es => (∀ d ∈ es, d.length = k) ∧ ∃ xs : List Value, w.ownsRow 0 e k (ρ l) es.length xs ∧ (∀ y ∈ xs, y.oneCell' = true) ∧ RepL w ρ S U (lift f es.flatten) xs
  | .mp ss => ∃ r, ρ l = .map (some r) ∧ MapOk w r ss
  | .dead => True

theorem ownsRow_of_block {w w' : World} {base : Nat} {e : TypeId} {size n : Nat} {v : Value} {xs : List Value} (h : w.ownsRow base e size v n xs) (hb : ∀ b, blk v = some b → w'.heap[b]? = w.heap[b]?) : w'.ownsRow base e size v n xs := by
  obtain ⟨h1, h2⟩ := h
  refine ⟨h1, ?_⟩
  rcases h2 with h2 | ⟨g, cap, cur, hv, hg, hh, r⟩
  · exact .inl h2
  · exact .inr ⟨g, cap, cur, hv, hg, by rw [hb g (by simp [hv, blk])]; exact hh, r⟩

theorem ObOk.mono {w w' : World} {ρ ρ' : Nat → Value} {S S' : Bool → Nat → Prop} {U U' : Nat → Prop} {l : Nat} (hS : ∀ f b, S f b → S' f b) (hw : ∀ f b, S f b → w'.heap[b]? = w.heap[b]?)
    (hU : ∀ l, U l → U' l) (hρ : ∀ l, U l → ρ' l = ρ l) (hl : U l) {o : Ob} (hb : ∀ b, blk (ρ l) = some b → w'.heap[b]? = w.heap[b]?) (h : ObOk w ρ S U l o) : ObOk w' ρ' S' U' l o := by
  cases o with
  | box cs =>
    obtain ⟨b, ty, xs, h1, h2, h3, h4⟩ := h
    exact ⟨b, ty, xs, by rw [hρ l hl, h1], by rw [hb b (by simp [h1, blk]), h2], h3, h4.mono hS hw hU hρ⟩
  | row e k cs =>
    obtain ⟨n, xs, h1, h2, h3⟩ := h
    exact ⟨n, xs, by rw [hρ l hl]; exact ownsRow_of_block h1 hb, h2, h3.mono hS hw hU hρ⟩
  | rowd e k f es =>
    obtain ⟨h0, xs, h1, h2, h3⟩ := h
    exact ⟨h0, xs, by rw [hρ l hl]; exact ownsRow_of_block h1 hb, h2, h3.mono hS hw hU hρ⟩
  | mp es =>
    obtain ⟨r, h1, h2⟩ := h
    exact ⟨r, by rw [hρ l hl, h1], h2.of_block (hb r (by simp [h1, blk]))⟩
  | dead => trivial

/-- What a call began with: its world, the blocks that it may write, the places of objects that it was handed, what it may read. -/
structure Ctx where
  w0 : World
  W : Nat → Prop
  R : Nat → Prop
  ρ0 : Nat → Value
  L : Nat → Prop

/-- Nothing but the blocks of W has turned among those that were there. -/
structure Far (W : Nat → Prop) (w w' : World) : Prop where
  os : w'.os = w.os
  tape : w'.tape = w.tape
  output : w'.output = w.output
  size : w.heap.size ≤ w'.heap.size
  block : ∀ b, b < w.heap.size → ¬ W b → w'.heap[b]? = w.heap[b]?

structure Conc (c : Ctx) (N : Nat) (σ : St) (a : Act) (w : World) (ρ : Nat → Value) (S : Bool → Nat → Prop) : Prop where
  tm : a.tmps.size = N
  df : a.defers = []
  T : ∀ t v, lk σ.T t = some v → Rep w ρ S σ.U v (a.tmps.getD t undef)
  O : ∀ l o, ok σ.O l = some o → ObOk w ρ S σ.U l o
  dj : ∀ l l' o o' b, ok σ.O l = some o → ok σ.O l' = some o' → o.live → o'.live → blk (ρ l) = some b → blk (ρ l') = some b → l = l'
  dS : ∀ l o b f, ok σ.O l = some o → o.live → blk (ρ l) = some b → ¬ S f b
  wr : ∀ l o b, ok σ.O l = some o → o.live → blk (ρ l) = some b → c.w0.heap.size ≤ b ∨ (c.L l ∧ c.W b)
  lt : ∀ l o b, ok σ.O l = some o → o.live → blk (ρ l) = some b → b < w.heap.size
  SS : ∀ b, ¬ (S true b ∧ S false b)
  Sb : ∀ f b, S f b → b < w.heap.size
  Sn : ∀ b, S true b → c.w0.heap.size ≤ b
  So : ∀ b, S false b → c.R b ∨ c.w0.heap.size ≤ b
  lo : ∀ l, c.L l → (ok σ.O l).isSome = true ∧ ρ l = c.ρ0 l
  fm : Far c.W c.w0 w

def C (c : Ctx) (N : Nat) (σ : St) (a : Act) (w : World) : Prop := ∃ ρ S, Conc c N σ a w ρ S

end Go.Proofs.Ytdecgkhdbfgldaa
