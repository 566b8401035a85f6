/- Part 12 of the proof: Ja, Kd, Ma, Ib, Ic, Ih, If, Ii, Mb, Mc, Im, Md, Mf. -/
import Derived.Test.YtpgceiijoedppaaGreatB11
set_option linter.unusedVariables false
set_option linter.unusedSimpArgs false
namespace Go.Proofs.YtpgceiijoedppaaGreat
open Go
structure TP {α : Type} (f : α → α → Int) : Prop where
 anti : ∀ a b, f b a = - f a b
 tr : ∀ a b c, f a b ≤ 0 → f b c ≤ 0 → f a c ≤ 0
section
variable {α : Type} {f g : α → α → Int}
theorem TP.self (h : TP f) (a : α) : f a a = 0 := by have := h.anti a a; omega
theorem TP.lt1 (h : TP f) {a b c : α} (h1 : f a b < 0) (h2 : f b c ≤ 0) : f a c < 0 := by
  have h3 := h.tr a b c (by omega) h2
  by_cases e : f a c = 0
  · have h4 : f c a ≤ 0 := by rw [h.anti a c]; omega
    have h5 := h.tr b c a h2 h4
    have := h.anti a b; omega
  · omega
theorem TP.lt2 (h : TP f) {a b c : α} (h1 : f a b ≤ 0) (h2 : f b c < 0) : f a c < 0 := by
  have h3 := h.tr a b c h1 (by omega)
  by_cases e : f a c = 0
  · have h4 : f c a ≤ 0 := by rw [h.anti a c]; omega
    have h5 := h.tr c a b h4 h1
    have := h.anti b c; omega
  · omega
theorem TP.eq (h : TP f) {a b c : α} (h1 : f a b = 0) (h2 : f b c = 0) : f a c = 0 := by
 have h3 := h.tr a b c (by omega) (by omega)
 have h4 := h.tr c b a (by rw [h.anti b c]; omega) (by rw [h.anti a b]; omega)
 have := h.anti a c; omega
theorem TP.lex (hf : TP f) (hg : TP g) : TP (fun a b => if f a b = 0 then g a b else f a b) := by
 refine ⟨fun a b => ?_, fun a b c h1 h2 => ?_⟩
 ·have ha := hf.anti a b
  show (if f b a = 0 then g b a else f b a) = - (if f a b = 0 then g a b else f a b)
  by_cases e : f a b = 0
  ·rw [if_pos e, if_pos (by omega)]; exact hg.anti a b
  ·rw [if_neg e, if_neg (by omega)]; exact ha
 ·replace h1 : (if f a b = 0 then g a b else f a b) ≤ 0 := h1
  replace h2 : (if f b c = 0 then g b c else f b c) ≤ 0 := h2
  show (if f a c = 0 then g a c else f a c) ≤ 0
  by_cases e1 : f a b = 0
  ·rw [if_pos e1] at h1
   by_cases e2 : f b c = 0
   ·rw [if_pos e2] at h2
    rw [if_pos (hf.eq e1 e2)]
    exact hg.tr a b c h1 h2
   ·rw [if_neg e2] at h2
    have := hf.lt2 (a := a) (b := b) (c := c) (by omega) (by omega)
    rw [if_neg (by omega)]; omega
  ·rw [if_neg e1] at h1
   have h2' : f b c ≤ 0 := by
    by_cases e2 : f b c = 0
    ·omega
    ·rw [if_neg e2] at h2; exact h2
   have := hf.lt1 (a := a) (b := b) (c := c) (by omega) h2'
   rw [if_neg (by omega)]; omega
theorem TP.zero : TP (fun _ _ : α => 0) := ⟨fun _ _ => rfl, fun _ _ _ _ _ => Int.le_refl _⟩
theorem TP.map {β : Type} (h : TP f) (m : β → α) : TP (fun a b => f (m a) (m b)) := ⟨fun _ _ => h.anti _ _, fun _ _ _ h1 h2 => h.tr _ _ _ h1 h2⟩
end
theorem TP.int : TP cmpI := by
 refine ⟨fun a b => ?_, fun a b c h1 h2 => ?_⟩
 ·simp only [cmpI]; split <;> (try split) <;> (try split) <;> omega
 ·simp only [cmpI] at h1 h2 ⊢
  split at h1 <;> split at h2 <;> (try split at h1) <;> (try split at h2) <;> (try split) <;> (try split) <;> omega
theorem cb_anti : ∀ a b : List UInt8, Lib.compareBytes b a = - Lib.compareBytes a b
  | [], [] => rfl
  | [], _ :: _ => rfl
  | _ :: _, [] => rfl
  | x :: a, y :: b => by
    have ih := cb_anti a b
    simp only [Lib.compareBytes, UInt8.lt_iff_toNat_lt]
    by_cases h1 : x.toNat < y.toNat
    · rw [if_neg (show ¬ y.toNat < x.toNat by omega), if_pos h1, if_pos h1]; rfl
    · by_cases h2 : y.toNat < x.toNat
      · rw [if_pos h2, if_neg h1, if_pos h2]
      · rw [if_neg h2, if_neg h1, if_neg h1, if_neg h2]; exact ih
theorem cb_tr : ∀ a b c : List UInt8, Lib.compareBytes a b ≤ 0 → Lib.compareBytes b c ≤ 0 → Lib.compareBytes a c ≤ 0
  | [], [], [], _, _ => by simp [Lib.compareBytes]
  | [], _, _ :: _, _, _ => by simp [Lib.compareBytes]
  | [], _ :: _, [], _, h => by simp [Lib.compareBytes]
  | _ :: _, [], _, h, _ => by simp [Lib.compareBytes] at h
  | _ :: _, _ :: _, [], _, h => by simp [Lib.compareBytes] at h
  | x :: a, y :: b, z :: c, h1, h2 => by
    have ih := cb_tr a b c
    simp only [Lib.compareBytes, UInt8.lt_iff_toNat_lt] at h1 h2 ⊢
    by_cases h3 : x.toNat < z.toNat
    · rw [if_pos h3]; decide
    · rw [if_neg h3]
      have e1 : ¬ y.toNat < x.toNat := fun h => by
        rw [if_neg (by omega), if_pos h] at h1; exact absurd h1 zD
      have e2 : ¬ z.toNat < y.toNat := fun h => by
        rw [if_neg (by omega), if_pos h] at h2; exact absurd h2 zD
      rw [if_neg (by omega)]
      rw [if_neg (by omega), if_neg e1] at h1
      rw [if_neg (by omega), if_neg e2] at h2
      exact ih h1 h2
theorem TP.str : TP cmpS := ⟨fun a b => cb_anti _ _, fun a b c h1 h2 => cb_tr _ _ _ h1 h2⟩
theorem cmpL_anti {f : Tm → Tm → Int} (h : TP f) : ∀ l m : List Tm, cmpL f m l = - cmpL f l m
  | [], [] => rfl
  | [], _ :: _ => rfl
  | _ :: _, [] => rfl
  | a :: l, b :: m => by
    have ih := cmpL_anti h l m
    have := h.anti a b
    simp only [cmpL]
    by_cases e : f a b = 0
    · rw [if_pos e, if_pos (by omega)]; exact ih
    · rw [if_neg e, if_neg (by omega)]; exact this
theorem cmpL_tr {f : Tm → Tm → Int} (h : TP f) : ∀ l m n : List Tm, cmpL f l m ≤ 0 → cmpL f m n ≤ 0 → cmpL f l n ≤ 0
  | [], [], [], _, _ => by simp [cmpL]
  | [], _, _ :: _, _, _ => by simp [cmpL]
  | [], _ :: _, [], _, h => by simp [cmpL]
  | _ :: _, [], _, h, _ => by simp [cmpL] at h
  | _ :: _, _ :: _, [], _, h => by simp [cmpL] at h
  | a :: l, b :: m, c :: n, h1, h2 => by
    have ih := cmpL_tr h l m n
    simp only [cmpL] at h1 h2 ⊢
    by_cases e1 : f a b = 0
    · rw [if_pos e1] at h1
      by_cases e2 : f b c = 0
      · rw [if_pos e2] at h2
        rw [if_pos (h.eq e1 e2)]
        exact ih h1 h2
      · rw [if_neg e2] at h2
        have := h.lt2 (a := a) (b := b) (c := c) (by omega) (by omega)
        rw [if_neg (by omega)]; omega
    · rw [if_neg e1] at h1
      have h2' : f b c ≤ 0 := by
        by_cases e2 : f b c = 0
        · omega
        · rw [if_neg e2] at h2; exact h2
      have := h.lt1 (a := a) (b := b) (c := c) (by omega) h2'
      rw [if_neg (by omega)]; omega
theorem TP.list {f : Tm → Tm → Int} (h : TP f) : TP (cmpL f) := ⟨cmpL_anti h, cmpL_tr h⟩
theorem TP.tm : ∀ d : Nat, TP (cmpT d)
  | 0 => by
    have : cmpT 0 = fun _ _ => 0 := by funext a b; rfl
    rw [this]; exact TP.zero
  | d + 1 => by
    have h1 : TP (fun a b : Tm => orL [cmpI a.kind b.kind, cmpI a.n b.n, cmpI a.args.length b.args.length, cmpS a.name b.name]) :=
      (TP.int.map Tm.kind).lex ((TP.int.map Tm.n).lex ((TP.int.map (fun a : Tm => (a.args.length : Int))).lex ((TP.str.map Tm.name).lex TP.zero)))
    have h2 : TP (fun a b : Tm => cmpL (cmpT d) a.args b.args) := (TP.list (TP.tm d)).map Tm.args
    exact h1.lex h2
theorem TP.ft : TP cmpF := ((TP.tm 5).map Ft.t).lex ((TP.int.map Ft.fr).lex ((TP.int.map Ft.to).lex TP.zero))
theorem cmpF_eq {a b : Ft} (hd : dle 5 a.t) : cmpF a b = 0 ↔ a = b := by
 rw [cmpF_zero hd, eqF]
 simp only [Bool.and_eq_true, beq_iff_eq, eqT_iff 5 a.t b.t hd]
 cases a; cases b; simp
def srtF (l : List Ft) : List Ft := l.mergeSort fun a b => decide (cmpF a b ≤ 0)
theorem sameId_eq {a b : Ft} (ha : factB a = true) (hb : factB b = true) (h : sameId a b = true) : a = b := by
 simp only [sameId, Bool.and_eq_true, decide_eq_true_eq] at h
 obtain ⟨⟨h1, h2⟩, h3⟩ := h
 have h4 : keyL 5 a.t ++ [] = keyL 5 b.t ++ [] := by
  simp only [List.append_nil]
  have := congrArg (fun s : ByteArray => s.data.toList) h1
  simpa [keyS] using this
 have h5 := (keyL_inj 5 a.t b.t (qdO ha).2.2 (qdO hb).2.2 (qdO ha).2.1 (qdO hb).2.1 [] [] h4).1
 cases a; cases b; simp only at h5 h2 h3; subst h5 h2 h3; rfl
theorem sameId_self (a : Ft) : sameId a a = true := by simp [sameId]
end Go.Proofs.YtpgceiijoedppaaGreat

namespace Go.Proofs.YtpgceiijoedppaaGreat
open Go
theorem cmpT_eq {a b : Tm} (h : dle 5 a) : cmpT 5 a b = 0 ↔ a = b := by rw [cmpT_zero 5 a b h, eqT_iff 5 a b h]
def SS (l : List Tm) : Prop := l.Pairwise fun a b => cmpT 5 a b < 0
theorem SS.nodup {l : List Tm} (h : SS l) : l.Nodup := h.imp fun {a b} h e => by
 subst e; rw [(TP.tm 5).self a] at h; omega
theorem SS.uniq {l m : List Tm} (hl : SS l) (hm : SS m) (h : ∀ x, x ∈ l ↔ x ∈ m) : l = m := by
 refine List.Perm.eq_of_pairwise (le := fun a b => cmpT 5 a b < 0) (fun a b ha hb h1 h2 => ?_) hl hm ((List.perm_ext_iff_of_nodup hl.nodup hm.nodup).2 h)
 have := (TP.tm 5).anti a b; omega
section
variable {α : Type}
def cmpG (f : α → α → Int) : List α → List α → Int
 | [], [] => 0
 | [], _ :: _ => -1
 | _ :: _, [] => 1
 | a :: x, b :: y => if f a b = 0 then cmpG f x y else f a b
theorem qd2 (f : α → α → Int) : ∀ (x y : List α) (k : Nat), k ≤ x.length → k ≤ y.length → (∀ j a b, j < k → x[j]? = some a → y[j]? = some b → f a b = 0) → cmpG f x y = cmpG f (x.drop k) (y.drop k)
  | x, y, 0, _, _, _ => by simp
  | [], _, k + 1, h, _, _ => by simp at h
  | _ :: _, [], k + 1, _, h, _ => by simp at h
  | a :: x, b :: y, k + 1, h1, h2, h => by
    rw [cmpG, if_pos (h 0 a b (by omega) E E), List.drop_succ_cons, List.drop_succ_cons]
    exact qd2 f x y k (by simpa using h1) (by simpa using h2) fun j a b hj ha hb => h (j + 1) a b (by omega) (by simpa using ha) (by simpa using hb)
theorem cmpG_anti {f : α → α → Int} (h : TP f) : ∀ l m : List α, cmpG f m l = - cmpG f l m
  | [], [] => rfl
  | [], _ :: _ => rfl
  | _ :: _, [] => rfl
  | a :: l, b :: m => by
    have ih := cmpG_anti h l m
    have := h.anti a b
    simp only [cmpG]
    by_cases e : f a b = 0
    · rw [if_pos e, if_pos (by omega)]; exact ih
    · rw [if_neg e, if_neg (by omega)]; exact this
theorem cmpG_tr {f : α → α → Int} (h : TP f) : ∀ a b c : List α, cmpG f a b ≤ 0 → cmpG f b c ≤ 0 → cmpG f a c ≤ 0
  | [], [], [], _, _ => by simp [cmpG]
  | [], _, _ :: _, _, _ => by simp [cmpG]
  | [], _ :: _, [], _, h => by simp [cmpG] at h
  | _ :: _, [], _, h, _ => by simp [cmpG] at h
  | _ :: _, _ :: _, [], _, h => by simp [cmpG] at h
  | x :: a, y :: b, z :: c, h1, h2 => by
    have ih := cmpG_tr h a b c
    simp only [cmpG] at h1 h2 ⊢
    by_cases e1 : f x y = 0
    · rw [if_pos e1] at h1
      by_cases e2 : f y z = 0
      · rw [if_pos e2] at h2
        rw [if_pos (h.eq e1 e2)]; exact ih h1 h2
      · rw [if_neg e2] at h2
        have := h.lt2 (a := x) (b := y) (c := z) (by omega) (by omega)
        rw [if_neg (by omega)]; omega
    · rw [if_neg e1] at h1
      have h3 : f y z ≤ 0 := by
        by_cases e2 : f y z = 0
        · omega
        · rw [if_neg e2] at h2; exact h2
      have := h.lt1 (a := x) (b := y) (c := z) (by omega) h3
      rw [if_neg (by omega)]; omega
theorem TP.listG {f : α → α → Int} (h : TP f) : TP (cmpG f) := ⟨cmpG_anti h, cmpG_tr h⟩
theorem cmpG_range {f : α → α → Int} (h : ∀ a b, -1 ≤ f a b ∧ f a b ≤ 1) : ∀ x y : List α, -1 ≤ cmpG f x y ∧ cmpG f x y ≤ 1
  | [], [] => by simp [cmpG]
  | [], _ :: _ => by simp [cmpG]
  | _ :: _, [] => by simp [cmpG]
  | a :: x, b :: y => by
    rw [cmpG]; split
    · exact cmpG_range h x y
    · exact h a b
def SSG (f : α → α → Int) (l : List α) : Prop := l.Pairwise fun a b => f a b < 0
theorem SSG.uniq {f : α → α → Int} (hf : TP f) {l m : List α} (hl : SSG f l) (hm : SSG f m) (h : ∀ x, x ∈ l ↔ x ∈ m) : l = m := by
 have nd : ∀ {l : List α}, SSG f l → l.Nodup := fun h => h.imp fun {a b} h e => by
  subst e; rw [hf.self a] at h; omega
 refine List.Perm.eq_of_pairwise (le := fun a b => f a b < 0) (fun a b ha hb h1 h2 => ?_) hl hm ((List.perm_ext_iff_of_nodup (nd hl) (nd hm)).2 h)
 have := hf.anti a b; omega
def posG (f : α → α → Int) (t : α) : List α → Nat
 | [] => 0
 | a :: l => if posG f t l = 0 ∧ 0 < f a t then 0 else posG f t l + 1
theorem posG_le (f : α → α → Int) (t : α) : ∀ l : List α, posG f t l ≤ l.length
  | [] => Nat.le_refl _
  | a :: l => by
    have := posG_le f t l
    rw [posG, List.length_cons]; split <;> omega
theorem posG_spec (f : α → α → Int) (t : α) : ∀ (l : List α), (∀ j a, posG f t l ≤ j → l[j]? = some a → 0 < f a t) ∧ (∀ a, 0 < posG f t l → l[posG f t l - 1]? = some a → ¬ 0 < f a t)
  | [] => ⟨fun j a _ h => by simp at h, fun a h => by simp [posG] at h⟩
  | b :: l => by
    obtain ⟨h1, h2⟩ := posG_spec f t l
    refine ⟨fun j a hj ha => ?_, fun a hp ha => ?_⟩
    · rw [posG] at hj
      split at hj
      · rename_i h
        cases j with
        | zero => simp only [List.getElem?_cons_zero, Option.some.injEq] at ha; subst ha; exact h.2
        | succ j => exact h1 j a (by omega) (by simpa using ha)
      · cases j with
        | zero => omega
        | succ j => exact h1 j a (by omega) (by simpa using ha)
    · rw [posG] at hp ha
      split at hp
      · omega
      · rename_i h
        rw [if_neg h] at ha
        rw [Nat.add_sub_cancel] at ha
        by_cases h0 : posG f t l = 0
        · rw [h0, List.getElem?_cons_zero, Option.some.injEq] at ha
          subst ha; exact fun h3 => h ⟨h0, h3⟩
        · obtain ⟨q, hq⟩ : ∃ q, posG f t l = q + 1 := ⟨posG f t l - 1, by omega⟩
          rw [hq, List.getElem?_cons_succ] at ha
          exact h2 a (by omega) (by rw [hq, Nat.add_sub_cancel]; exact ha)
theorem posG_eq {f : α → α → Int} {t : α} {l : List α} {k : Nat} (hk : k ≤ l.length) (h1 : ∀ j a, k ≤ j → l[j]? = some a → 0 < f a t) (h2 : ∀ a, 0 < k → l[k - 1]? = some a → ¬ 0 < f a t) : posG f t l = k := by
 obtain ⟨s1, s2⟩ := posG_spec f t l
 have hle := posG_le f t l
 rcases Nat.lt_trichotomy (posG f t l) k with h | h | h
 ·exfalso
  obtain ⟨a, ha⟩ : ∃ a, l[k - 1]? = some a := ⟨l[k - 1], List.getElem?_eq_getElem (by omega)⟩
  exact h2 a (by omega) ha (s1 (k - 1) a (by omega) ha)
 ·exact h
 ·exfalso
  obtain ⟨a, ha⟩ : ∃ a, l[posG f t l - 1]? = some a := ⟨l[posG f t l - 1], List.getElem?_eq_getElem (by omega)⟩
  exact s2 a (by omega) ha (h1 (posG f t l - 1) a (by omega) ha)
def sameG (f : α → α → Int) (t : α) (l : List α) : Bool := match posG f t l with
  | 0 => false
  | k + 1 => match l[k]? with
    | some a => decide (f a t = 0)
    | none => false
def putG (f : α → α → Int) (l : List α) (t : α) : List α := if sameG f t l = true then l else l.take (posG f t l) ++ t :: l.drop (posG f t l)
theorem putG_len (f : α → α → Int) (l : List α) (t : α) : l.length ≤ (putG f l t).length ∧ (putG f l t).length ≤ l.length + 1 := by
 have := posG_le f t l
 rw [putG]; split
 ·omega
 ·simp; omega
theorem putG_mem {f : α → α → Int} {D : α → Prop} (hz : ∀ a b, D a → D b → f a b = 0 → a = b) {l : List α} {t : α} (hl : ∀ a ∈ l, D a) (ht : D t) {x : α} : x ∈ putG f l t ↔ x ∈ l ∨ x = t := by
 rw [putG]
 split
 ·rename_i h
  refine ⟨fun h => .inl h, fun h2 => ?_⟩
  rcases h2 with h2 | rfl
  ·exact h2
  ·rw [sameG] at h
   split at h
   ·cases h
   ·rename_i k hk
    split at h
    ·rename_i a ha
     have hm := List.mem_of_getElem? ha
     rw [← hz a x (hl a hm) ht (by simpa using h)]; exact hm
    ·cases h
 ·conv => rhs; rw [← List.take_append_drop (posG f t l) l]
  simp only [List.mem_append, List.mem_cons]
  constructor
  ·rintro (h | h | h)
   ·exact .inl (.inl h)
   ·exact .inr h
   ·exact .inl (.inr h)
  ·rintro ((h | h) | h)
   ·exact .inl h
   ·exact .inr (.inr h)
   ·exact .inr (.inl h)
theorem putG_ss {f : α → α → Int} (hf : TP f) {l : List α} {t : α} (hs : SSG f l) : SSG f (putG f l t) := by
 rw [putG]
 split
 ·exact hs
 ·rename_i hn
  obtain ⟨s1, s2⟩ := posG_spec f t l
  have hle := posG_le f t l
  have hpw := List.pairwise_iff_getElem.1 hs
  have hb : ∀ a ∈ l.take (posG f t l), f a t < 0 := fun a ha => by
   obtain ⟨j, hj⟩ := List.getElem?_of_mem ha
   have hj2 : j < posG f t l := by
    have := (List.getElem?_eq_some_iff.1 hj).1
    rw [List.length_take] at this; omega
   rw [List.getElem?_take, if_pos hj2] at hj
   obtain ⟨q, hq⟩ : ∃ q, posG f t l = q + 1 := ⟨posG f t l - 1, by omega⟩
   obtain ⟨b, hb⟩ : ∃ b, l[q]? = some b := ⟨l[q], List.getElem?_eq_getElem (by omega)⟩
   have h3 : ¬ 0 < f b t := s2 b (by omega) (by rw [hq, Nat.add_sub_cancel]; exact hb)
   have h4 : f b t ≠ 0 := fun e => hn (by rw [sameG, hq]; simp only [hb, e, decide_true])
   obtain ⟨j1, j2⟩ := List.getElem?_eq_some_iff.1 hj
   obtain ⟨q1, q2⟩ := List.getElem?_eq_some_iff.1 hb
   by_cases hjq : j = q
   ·subst hjq; rw [hj] at hb; cases hb; omega
   ·have := hpw j q j1 q1 (by omega)
    rw [j2, q2] at this
    exact hf.lt1 this (by omega)
  have ha : ∀ a ∈ l.drop (posG f t l), f t a < 0 := fun a ha => by
   obtain ⟨j, hj⟩ := List.getElem?_of_mem ha
   rw [List.getElem?_drop] at hj
   have := s1 _ a (Nat.le_add_right _ _) hj
   have := hf.anti a t; omega
  refine List.pairwise_append.2 ⟨hs.sublist (List.take_sublist _ _), List.pairwise_cons.2 ⟨ha, hs.sublist (List.drop_sublist _ _)⟩, fun x hx y hy => ?_⟩
  rcases List.mem_cons.1 hy with rfl | hy
  ·exact hb x hx
  ·exact hf.lt1 (hb x hx) (by have := ha y hy; omega)
def qaS (f : α → α → Int) (l m : List α) : List α := m.foldl (putG f) l
theorem putsG_spec {f : α → α → Int} (hf : TP f) {D : α → Prop} (hz : ∀ a b, D a → D b → f a b = 0 → a = b) : ∀ (m l : List α), (∀ a ∈ l, D a) → (∀ a ∈ m, D a) → SSG f l → SSG f (qaS f l m) ∧ ∀ x, x ∈ qaS f l m ↔ x ∈ l ∨ x ∈ m
  | [], l, _, _, h => ⟨h, fun x => by simp [qaS]⟩
  | t :: m, l, hl, hm, h => by
    have h1 := fun x => putG_mem (x := x) hz hl (hm t (by simp))
    obtain ⟨h2, h3⟩ := putsG_spec hf hz m (putG f l t) (fun a ha => by
      rcases (h1 a).1 ha with h | rfl
      · exact hl a h
      · exact hm a (by simp)) (fun a ha => hm a (by simp [ha])) (putG_ss hf h)
    refine ⟨h2, fun x => ?_⟩
    rw [qaS, List.foldl_cons]
    rw [show List.foldl (putG f) (putG f l t) m = qaS f (putG f l t) m from rfl, h3, h1, List.mem_cons]
    constructor
    · rintro ((h | h) | h)
      · exact .inl h
      · exact .inr (.inl h)
      · exact .inr (.inr h)
    · rintro (h | h | h)
      · exact .inl (.inl h)
      · exact .inl (.inr h)
      · exact .inr h
def compN (f : α → α → Int) : α → List α → List α
 | _, [] => []
 | p, a :: l => if f a p = 0 then compN f a l else a :: compN f a l
def compG (f : α → α → Int) : List α → List α
 | [] => []
 | a :: l => a :: compN f a l
theorem compN_spec {f : α → α → Int} (hf : TP f) {D : α → Prop} (hz : ∀ a b, D a → D b → f a b = 0 → a = b) : ∀ (l : List α) (p : α), D p → (∀ a ∈ l, D a) → ((p :: l).Pairwise fun x y => ¬ f y x < 0) → SSG f (p :: compN f p l) ∧ ∀ x, x ∈ p :: compN f p l ↔ x ∈ p :: l
  | [], p, _, _, _ => ⟨List.pairwise_singleton _ _, fun x => Iff.rfl⟩
  | a :: l, p, hp, hl, hs => by
    obtain ⟨h1, h2⟩ := List.pairwise_cons.1 hs
    obtain ⟨i1, i2⟩ := compN_spec hf hz l a (hl a (by simp)) (fun b hb => hl b (by simp [hb])) h2
    rw [compN]
    split
    · rename_i h
      have e := hz a p (hl a (by simp)) hp h
      subst e
      refine ⟨i1, fun x => ?_⟩
      rw [i2]; simp
    · rename_i h
      have h3 : f p a < 0 := by have := h1 a (by simp); have := hf.anti a p; omega
      refine ⟨List.pairwise_cons.2 ⟨fun y hy => ?_, i1⟩, fun x => ?_⟩
      · rcases List.mem_cons.1 hy with rfl | hy
        · exact h3
        · exact hf.lt1 h3 (by have := (List.pairwise_cons.1 i1).1 y hy; omega)
      · rw [List.mem_cons, i2, List.mem_cons, List.mem_cons, List.mem_cons]
theorem compG_spec {f : α → α → Int} (hf : TP f) {D : α → Prop} (hz : ∀ a b, D a → D b → f a b = 0 → a = b) (l : List α) (hl : ∀ a ∈ l, D a) (hs : l.Pairwise fun x y => ¬ f y x < 0) : SSG f (compG f l) ∧ ∀ x, x ∈ compG f l ↔ x ∈ l := by
 cases l with
 | nil => exact ⟨List.Pairwise.nil, fun x => Iff.rfl⟩
 | cons a l => exact compN_spec hf hz l a (hl a (by simp)) (fun b hb => hl b (by simp [hb])) hs
end
end Go.Proofs.YtpgceiijoedppaaGreat

set_option maxRecDepth 8000
namespace Go.Proofs.YtpgceiijoedppaaGreat
open Go
def fitsB (a t : Tm) : Bool := decide ((fitR 5 [] a t).2 = 0)
def ansL (k : List Tm) (a : Tm) : List (List Bd) := (k.filter (fitsB a)).map fun t => (fitR 5 [] a t).1
abbrev gdA (g : Gd) : AV := .agg (lift false (gdD g))
def cmpdB (l : List Bd) (g : Gd) : Bool := mayT (putT l g.l) && mayT (putT l g.r) && guardC g.kind (putT l g.l) (putT l g.r)
def keyOne (b : Bd) : ByteArray := b.name ++ ⟨#[32]⟩ ++ ⟨(keyL 5 b.t).toArray⟩
def keyB (l : List Bd) : ByteArray := l.foldl (fun s b => s ++ keyOne b) ⟨#[]⟩
def onceS (x : List (List Bd)) (y : List Bd) : List (List Bd) := if (x.map keyB).any (fun s => decide (s = keyB y)) = true then x else x ++ [y]
def onceL (l : List (List Bd)) : List (List Bd) := l.foldl onceS []
def behL (k : List Tm) (l : List Bd) (g : Gd) : List (List Bd) :=
 if g.kind = 5 then (if (mayT (putT l g.l) && flatB (putT l g.l)) = true then ((ansL k (putT l g.l)).filter fun y => decide (bothE l y = 0)).map fun y => bothL l y else [])
 else if g.kind = 6 then (if (mayT (putT l g.l) && groundB (putT l g.l) && !(flatB (putT l g.l) && decide (0 < (ansL k (putT l g.l)).length))) = true then [l] else [])
 else if cmpdB l g = true then [l] else []
def allStep (k : List Tm) (X : List (List Bd)) (g : Gd) : List (List Bd) := onceL (X.flatMap fun b => behL k b g)
def allX (k : List Tm) (l : List Bd) (gs : List Gd) : List (List Bd) := gs.foldl (allStep k) [l]
def allOk (k : List Tm) (l : List Bd) (gs : List Gd) : Bool := (List.range gs.length).all fun i => decide ((allX k l (gs.take (i + 1))).length ≤ 1000)
def allL (k : List Tm) (l : List Bd) (gs : List Gd) : List (List Bd) := if allOk k l gs = true then allX k l gs else []
theorem bindOwnT_ok (l : List Bd) (hl : BOk l) : PF 178 [bdA l] (.dat true 5 (bdDs l)) := by
 have hlen := qaR l
 have hll := hl.len
 refine qF Tryz.func178 E Tryz.ntmps178 zL fun c hL hQ hDD => (qd (qb (zX E (zK (qd (qd ?_)))))); refine qb (zX E (zA E (qu E qO E) (zX E (zK (qv (q6 (l.length) (fun k => k ≤ l.length) (fun k => ⟨[(2, .row 2), (5, bdA l), (6, iv (bdDs l).length), (7, iv (k : Int))], [(2, .rowd 143 5 true (bdDs (l.take k)))]⟩) (by omega) ?_ (fun k hk hp => ?_)))))))
 ·exact Sub.trans (qaU (t := 2) (l := 2) 143 5 true E E) (qB (zC E (zC E (zC E (zC E SubT.nil)))) (SubO.cons (qR E (by rfl)) SubO.nil) E E (noL' (noL hL) _))
 have hl2 : (bdDs (l.take k)).length ≤ l.length := by rw [qaR, List.length_take]; omega
 refine qd (qb (zA E (qj E E E E) (zK (qd (qq E (fun c0 => ?_) (fun c0 => ?_))))))
 ·try simp only[↓cqA,cqB]at c0
  obtain ⟨u, hu⟩ := qH (l := l) (k := k) (by omega)
  have hum := hl.el u (List.mem_of_getElem? hu)
  have key := Own_ok 5 u.t (mayT_dle hum.2).1 hum.1.2
  rw [own_may 5 u.t 24 hum.2] at key
  refine qr (qa (qd (qv (qd (qb (zA E (qp E qO E E (by omega) (qbe hu)) (zA E (qC E qaT E E) ?_)))))))
  refine qy E E zD (qaD 4 E qby E) E (qae E E E qaT E E E E E E E E E (zK (qZ 8 mixed E E E E (qf E zD (.run E (qk (.inl E) E)) (qf E zD (.run E (qe E qaG E)) (qf E zD (.run E (ql E qaf E E E E E)) ?_)))))); refine qf E zD (.run E (qe E qaZ E)) (qf E zD (.run E (ql E qw E E E E E)) (qf E zD (.run E (qY (avs := [_]) true E en_term_Own E E (key) (fun _ => rfl) E)) (qf E zD (.run E (qa1 E qby E pl_api_Bind E E)) (MGo_c1 E zD (.run E (qam 18 E qO qby E E zD zD zD E E E)) (qak ⟨rfl, rfl, ?_⟩)))))
  refine qc1 E E zD (qa5 19 qdi E E E E E E E E (noL hL _) (by omega) E) E (zX E (qc (qP (qa (qb (zA E (qJ E E E (by omega)) (zX E ?_))))))); refine zK ?_; refine ⟨?_, ?_, ?_⟩
  ·omega
  ·omega
  exact Sub.trans (qaC 19 2 (noL hL _) (noL hL _)) (qB (zC E (zC E (zC E (zC E SubT.nil)))) (SubO.cons (qR E (by rw [qac hu, bdDs, bdDs, List.map_append]; rfl)) SubO.nil) E E (noL' (noL hL) _))
 try simp only[↓cqA,cqB]at c0
 refine qQ (qn (qn (qX ?_))); refine qa (qd (qd3 (qa4 (l := 2) E zD (noL hL _) E E) (qb (zX E (zX E (zK ?_)))))); refine qo (zI hL (qh E qi) ?_ ?_)
 ·rfl
 exact ⟨by rw [List.take_of_length_le (by omega)]; rfl, rfl⟩
section
variable {P : Program} {c : Ctx} {N : Nat} {o : Oper} {σ : St}
end
end Go.Proofs.YtpgceiijoedppaaGreat

namespace Go.Proofs.YtpgceiijoedppaaGreat
open Go
def bnd (y : List Bd) (t : Tm) : Prop := ∀ v, t.occ v → hasB y v = true
def Ext (l y : List Bd) : Prop := ∀ v, hasB l v = true → hasB y v = true ∧ gB y v = gB l v
theorem Ext.refl (l : List Bd) : Ext l l := fun v h => ⟨h, rfl⟩
theorem Ext.put {l y : List Bd} (he : Ext l y) {t : Tm} (hb : bnd l t) (hd : dle 5 t) : putT y t = putT l t := by
 rw [putT_sub hd, putT_sub hd]; exact sub_congr t fun v hv => (he v (hb v hv)).2
theorem Ext.bnd {l y : List Bd} (he : Ext l y) {t : Tm} (hb : bnd l t) : bnd y t := fun v hv => (he v (hb v hv)).1
theorem putT_ground {one : List Bd} {t : Tm} (hm : mayT t = true) (hg : Gr t) : putT one t = t := by rw [putT_sub (qbA hm), hg.sub (qdT hm)]
theorem subB_ground {one l : List Bd} (hl : GG l) : subB one l = l := by
 have : ∀ b ∈ l, (⟨b.name, putT one b.t⟩ : Bd) = b := fun b hb => by rw [putT_ground (hl.gb.el b hb).2.2 (hl.gr b hb)]
 unfold subB
 conv => rhs; rw [← List.map_id l]
 exact List.map_congr_left this
theorem both_one {l : List Bd} (hl : GG l) {s : ByteArray} {t : Tm} (hh : hasB l s = false) : bothL l [⟨s, t⟩] = standL l s t ∧ bothE l [⟨s, t⟩] = standE l s t := by
 have e1 : bothX l [⟨s, t⟩] = ins l (posB l s) ⟨s, t⟩ := by simp [bothX, qcx, hh]
 have e2 : bothOk l [⟨s, t⟩] = true := by simp [bothOk, bothBad, hh]
 have e3 : (ins l (posB l s) ⟨s, t⟩).length = l.length + 1 := ins_length _ _ _ (posB_le l s)
 have e4 : goodB [⟨s, t⟩] l = true := List.all_eq_true.2 fun b hb => by
  have hb2 := (hl.gb.el b hb).2.2
  simp [intoE, putT_ground hb2 (hl.gr b hb), hb2]
 rw [bothL, bothE, standL, standE, e1, e2, e3, e4, subB_ground hl]
 by_cases h : 16 ≤ l.length
 ·have h1 : ¬ (l.length + 1 ≤ 16) := by omega
  simp [h, h1]
 ·have h1 : l.length + 1 ≤ 16 := by omega
  simp [h, h1]
def rmPost (q : List Bd × Int) (r : AV) : Prop := (∃ e, r = .tup [.imm (.slice none 0 0), iv e] ∧ q = ([], e)) ∨ r = .tup [.dat true 5 (bdDs q.1), iv q.2]
theorem rmPost_ok {f : FuncId} {args : List AV} {q : List Bd × Int} (h : AC Tryz.prog f args [] (fun r O => rmPost q r ∧ O = [])) : PF f args (.tup [.dat true 5 (bdDs q.1), iv q.2]) :=
 AC_leP h (fun r O' h => by
  obtain ⟨⟨e, rfl, rfl⟩ | rfl, rfl⟩ := h
  ·exact ⟨_, .tup (.cons (.nil (f := true) (k := 5)) (.cons .refl .nil)), rfl, rfl⟩
  ·exact ⟨_, .refl, rfl, rfl⟩)
theorem rMatch_ok : ∀ (d : Nat) (l : List Bd) (a b : Tm), dle d a → a.shp → a.wf → GG l → b.wf → mayT b = true → Gr b → PF 61 [bdA l, tmA false a, tmA false b] (.tup [.dat true 5 (bdDs (fitR d l a b).1), iv (fitR d l a b).2])
  | 0, l, a, b, h, _, _, _, _, _, _ => h.elim
  | d + 1, l, a, b, h, hs, ha, hl, hb, hm, hg => by
    refine rmPost_ok ?_
    have hln := hl.gb.len
    have hbl := qaR l
    have hla := qaJ a.args
    have hlb := qaJ b.args
    have hal : a.args.length ≤ 4 := by
      rcases ((Tm.shp_iff a).1 hs).1 with ⟨_, _, _, e⟩ | ⟨_, _, _, e⟩ | ⟨_, _, _, e⟩ <;> simp_all
    have hat := atB_has a.name l
    have hle : ∀ x ∈ l, dle 5 x.t := fun x hx => qbA (hl.gb.el x hx).2.2
    have hlw : ∀ x ∈ l, x.wf := fun x hx => (hl.gb.el x hx).1
    refine qF Tryz.func61 E Tryz.ntmps61 zL fun c hL hQ hDD => (qd (qb (qy E E zD (qaa 4 E E E) E (qy E E zD (qaa 5 E E E) E (zX E (zX E (qc ?_))))))); refine qa (qd (qd (qb (zA E (qe E qar E) (zA E (ql E qU E E E E E) (zA E (qj E E E E) (zK (qq E (fun c0 => ?_) (fun c0 => ?_)))))))))
    · try simp only[↓cqA,cqB]at c0
      refine qd (qb (zX E (zA E (qe E qav E) (zA E (ql E qaf E E E E E) ?_))))
      refine qE (avs := [_, _]) true E E E zD en_almagestref1_At E E (At1_ok' l a.name (by omega)) E E (zX E (zK (qd (qd (qb (zX E ?_)))))); refine zA E (qj E E E E) (zK (qq E (fun c1 => ?_) (fun c1 => ?_)))
      · try simp only[↓cqA,cqB]at c1
        have hh : hasB l a.name = true := hat.1 (by omega)
        obtain ⟨v, hv, hvn, hlk⟩ : ∃ x : Bd, l[(atB a.name l).toNat]? = some x ∧ x.name = a.name ∧ lookB l a.name = some x.t := by
          rcases atB_cases a.name l with ⟨h1, _⟩ | ⟨_, i, x, h2, h3, h4, h5⟩
          · rw [h1] at hh; cases hh
          · exact ⟨x, by rw [h2]; exact h3, h4, h5⟩
        have hvt : lookT l a.name = v.t := by rw [lookT, hlk]; rfl
        have hvm := hl.gb.el v (List.mem_of_getElem? hv)
        have hvl := (List.getElem?_eq_some_iff.1 hv).1
        have hcz := cmpT_zero 5 v.t b (qbA hvm.2.2)
        refine qd (qd (qZ 6 mixed E E E E (qf E zD (.run E (qk (.inl E) E)) (qf E zD (.run E (qk (.inl E) E)) (qf E zD (.run E (qp E qO E E (by omega) (qbe hv))) (qf E zD (.run E (qA E qaZ E)) (qf E zD (.run E (qC E qw E E)) ?_)))))))
        refine qf E zD (.run E (qK E qw E E E E)) (qak ⟨rfl, rfl, ?_⟩); refine qE (avs := [_, _]) true E E E zD qbh E E (EqTerm_ok 5 v.t b (qbA hvm.2.2) hvm.1.2 hb) E E (zK (qq E (fun c2 => ?_) (fun c2 => ?_)))
        · try simp only[↓cqA,cqB]at c2
          refine qd (qb (zX E (qc1 E E zD (qcD (avs := [_]) true E qbq E E (AC_rnE 3 77 (CopyBinds_ok 5 l (by omega) hle hlw)) (fun _ => rfl) E) E (qaB (qa4 (l := 77) E zD (noL hL _) E E) (zX E (zX E (zK (qo (qm (qm (qm (zI hL (qh E (qh E qi)) ?_ ?_))))))))))))
          · rfl
          refine ⟨?_, rfl⟩
          rw [fitR]
          first
            | (rw [if_pos c0, if_pos hh, hvt, if_pos (hcz.2 c2)]; exact .inr E)
            | (rw [if_pos c0, if_pos hh, hvt, if_neg (fun hx => by have := hcz.1 hx; rw [this] at c2; cases c2)]; exact .inl ⟨_, rfl, rfl⟩)
            | (rw [if_pos c0, if_neg (by simp [hh]), ← hb1, ← hb2]; exact .inr E)
            | (rw [if_neg c0, if_pos hab]
               rw [htk] at hp ⊢
               refine .inr ?_
               rw [hp.2]; rfl)
            | (rw [if_neg c0, if_pos hab]
               have e : fitL d l (a.args.zip b.args) = ([], (fitR d (fitL d l ((a.args.zip b.args).take k)).1 q.1 q.2).2) := by
                 rw [if_pos c5] at hsn
                 have := qdB d ((a.args.zip b.args).take (k + 1)) ((a.args.zip b.args).drop (k + 1)) l (by rw [hsn]; exact c5)
                 rw [List.take_append_drop] at this
                 rw [this, hsn]
               rw [e]; exact .inl ⟨_, rfl, rfl⟩)
            | (rw [if_neg c0, if_neg (fun hx => by simp only [argsB, Bool.and_eq_true, decide_eq_true_eq] at hx; obtain ⟨⟨⟨_, _⟩, _⟩, _⟩ := hx; first | (simp_all; done) | omega)]; exact .inl ⟨_, rfl, rfl⟩)
            | trace_state
        try simp only[↓cqA,cqB]at c2
        refine qr (qa (qd (qb (zX E (zX E (zK ?_)))))); refine qo (qm (qm (zI hL (qh E (qh E qi)) ?_ ?_)))
        · rfl
        refine ⟨?_, rfl⟩
        rw [fitR]
        first
          | (rw [if_pos c0, if_pos hh, hvt, if_pos (hcz.2 c2)]; exact .inr E)
          | (rw [if_pos c0, if_pos hh, hvt, if_neg (fun hx => by have := hcz.1 hx; rw [this] at c2; cases c2)]; exact .inl ⟨_, rfl, rfl⟩)
          | (rw [if_pos c0, if_neg (by simp [hh]), ← hb1, ← hb2]; exact .inr E)
          | (rw [if_neg c0, if_pos hab]
             rw [htk] at hp ⊢
             refine .inr ?_
             rw [hp.2]; rfl)
          | (rw [if_neg c0, if_pos hab]
             have e : fitL d l (a.args.zip b.args) = ([], (fitR d (fitL d l ((a.args.zip b.args).take k)).1 q.1 q.2).2) := by
               rw [if_pos c5] at hsn
               have := qdB d ((a.args.zip b.args).take (k + 1)) ((a.args.zip b.args).drop (k + 1)) l (by rw [hsn]; exact c5)
               rw [List.take_append_drop] at this
               rw [this, hsn]
             rw [e]; exact .inl ⟨_, rfl, rfl⟩)
          | (rw [if_neg c0, if_neg (fun hx => by simp only [argsB, Bool.and_eq_true, decide_eq_true_eq] at hx; obtain ⟨⟨⟨_, _⟩, _⟩, _⟩ := hx; first | (simp_all; done) | omega)]; exact .inl ⟨_, rfl, rfl⟩)
          | trace_state
      try simp only[↓cqA,cqB]at c1
      have hh : hasB l a.name = false := by
        cases hc : hasB l a.name with
        | false => rfl
        | true => have := hat.2 hc; omega
      obtain ⟨hb1, hb2⟩ := both_one (t := b) hl hh
      refine qr (qa (qd (qb (zX E (zA E (qe E qav E) (zA E (ql E qaf E E E E E) (zA E (qK E qw E E E E) (zA E (qa1 E qby E pl_api_Bind E E) (qy E E zD (qam 35 E qO qby E E zD zD zD E E E) E (qdg 35 false 1 E E E E ?_))))))))))
      refine qE (avs := [_, _]) true E E E zD qdw E E (rJoin_ok l [⟨a.name, b⟩] hl.gb.bok (one_bok ha.2.1 hb hm)) E E (zA E (qay E E E) (zA E (qay E E E) (zX E (zX E (zK (qo ?_)))))); refine qm (zI hL (qh E (qh E qi)) ?_ ?_)
      · rfl
      refine ⟨?_, rfl⟩
      rw [fitR]
      first
        | (rw [if_pos c0, if_pos hh, hvt, if_pos (hcz.2 c2)]; exact .inr E)
        | (rw [if_pos c0, if_pos hh, hvt, if_neg (fun hx => by have := hcz.1 hx; rw [this] at c2; cases c2)]; exact .inl ⟨_, rfl, rfl⟩)
        | (rw [if_pos c0, if_neg (by simp [hh]), ← hb1, ← hb2]; exact .inr E)
        | (rw [if_neg c0, if_pos hab]
           rw [htk] at hp ⊢
           refine .inr ?_
           rw [hp.2]; rfl)
        | (rw [if_neg c0, if_pos hab]
           have e : fitL d l (a.args.zip b.args) = ([], (fitR d (fitL d l ((a.args.zip b.args).take k)).1 q.1 q.2).2) := by
             rw [if_pos c5] at hsn
             have := qdB d ((a.args.zip b.args).take (k + 1)) ((a.args.zip b.args).drop (k + 1)) l (by rw [hsn]; exact c5)
             rw [List.take_append_drop] at this
             rw [this, hsn]
           rw [e]; exact .inl ⟨_, rfl, rfl⟩)
        | (rw [if_neg c0, if_neg (fun hx => by simp only [argsB, Bool.and_eq_true, decide_eq_true_eq] at hx; obtain ⟨⟨⟨_, _⟩, _⟩, _⟩ := hx; first | (simp_all; done) | omega)]; exact .inl ⟨_, rfl, rfl⟩)
        | trace_state
    try simp only[↓cqA,cqB]at c0
    refine qr (qa (qd (qd (qb (zA E (qe E qar E) (zA E (ql E qU E E E E E) (zA E (qe E qar E) ?_))))))); refine zA E (ql E qU E E E E E) (zA E (qj E E E E) (zX E (qt 44 E (fun g44 => ?_) (fun g44 => ?_))))
    · try simp only[↓cqA,cqB]at g44
      refine zY E (zY E (zY E (zY E (zY E (zA E (qg E E E) (zX E (zY E (zY E (zY E (zY E (zY E (zA E (qg E E E) (zX E (zY E (zY E (zY E (zY E ?_)))))))))))))))))
      refine zY E (zY E (zY E (zA E (qg E E E) (zK (qaN E (qd ?_)))))); refine qb (zX E (zX E (zK (qo (qm (zI hL (qh E (qh E qi)) ?_ ?_))))))
      · rfl
      refine ⟨?_, rfl⟩
      rw [fitR]
      first
        | (rw [if_pos c0, if_pos hh, hvt, if_pos (hcz.2 c2)]; exact .inr E)
        | (rw [if_pos c0, if_pos hh, hvt, if_neg (fun hx => by have := hcz.1 hx; rw [this] at c2; cases c2)]; exact .inl ⟨_, rfl, rfl⟩)
        | (rw [if_pos c0, if_neg (by simp [hh]), ← hb1, ← hb2]; exact .inr E)
        | (rw [if_neg c0, if_pos hab]
           rw [htk] at hp ⊢
           refine .inr ?_
           rw [hp.2]; rfl)
        | (rw [if_neg c0, if_pos hab]
           have e : fitL d l (a.args.zip b.args) = ([], (fitR d (fitL d l ((a.args.zip b.args).take k)).1 q.1 q.2).2) := by
             rw [if_pos c5] at hsn
             have := qdB d ((a.args.zip b.args).take (k + 1)) ((a.args.zip b.args).drop (k + 1)) l (by rw [hsn]; exact c5)
             rw [List.take_append_drop] at this
             rw [this, hsn]
           rw [e]; exact .inl ⟨_, rfl, rfl⟩)
        | (rw [if_neg c0, if_neg (fun hx => by simp only [argsB, Bool.and_eq_true, decide_eq_true_eq] at hx; obtain ⟨⟨⟨_, _⟩, _⟩, _⟩ := hx; first | (simp_all; done) | omega)]; exact .inl ⟨_, rfl, rfl⟩)
        | trace_state
    try simp only[↓cqA,cqB]at g44
    refine zZ E (qe E qbc E) (zZ E (ql E qU E E E E E) (zZ E (qe E qbc E) (zZ E (ql E qU E E E E E) (zZ E (qj E E E E) (zA E (qg E E E) (zX E (qt 51 E (fun g51 => ?_) (fun g51 => ?_))))))))
    · try simp only[↓cqA,cqB]at g51
      refine zY E (zY E (zY E (zY E (zY E (zA E (qg E E E) (zX E (zY E (zY E (zY E (zY E (zY E ?_)))))))))))
      refine zY E (zY E (zA E (qg E E E) (zK (qaN E (qd (qb ?_)))))); refine zX E (zX E (zK (qo (qm (zI hL (qh E (qh E qi)) ?_ ?_)))))
      · rfl
      refine ⟨?_, rfl⟩
      rw [fitR]
      first
        | (rw [if_pos c0, if_pos hh, hvt, if_pos (hcz.2 c2)]; exact .inr E)
        | (rw [if_pos c0, if_pos hh, hvt, if_neg (fun hx => by have := hcz.1 hx; rw [this] at c2; cases c2)]; exact .inl ⟨_, rfl, rfl⟩)
        | (rw [if_pos c0, if_neg (by simp [hh]), ← hb1, ← hb2]; exact .inr E)
        | (rw [if_neg c0, if_pos hab]
           rw [htk] at hp ⊢
           refine .inr ?_
           rw [hp.2]; rfl)
        | (rw [if_neg c0, if_pos hab]
           have e : fitL d l (a.args.zip b.args) = ([], (fitR d (fitL d l ((a.args.zip b.args).take k)).1 q.1 q.2).2) := by
             rw [if_pos c5] at hsn
             have := qdB d ((a.args.zip b.args).take (k + 1)) ((a.args.zip b.args).drop (k + 1)) l (by rw [hsn]; exact c5)
             rw [List.take_append_drop] at this
             rw [this, hsn]
           rw [e]; exact .inl ⟨_, rfl, rfl⟩)
        | (rw [if_neg c0, if_neg (fun hx => by simp only [argsB, Bool.and_eq_true, decide_eq_true_eq] at hx; obtain ⟨⟨⟨_, _⟩, _⟩, _⟩ := hx; first | (simp_all; done) | omega)]; exact .inl ⟨_, rfl, rfl⟩)
        | trace_state
    try simp only[↓cqA,cqB]at g51
    refine zZ E (qe E qav E) (zZ E (ql E qaf E E E E E) (zZ E (qe E qav E) (zZ E (ql E qaf E E E E E) (zZ E (qbV E E E E) (zA E (qg E E E) (zX E (qt 58 E (fun g58 => ?_) (fun g58 => ?_))))))))
    · try simp only[↓cqA,cqB]at g58
      refine zY E (zY E (zY E (zY E (zY E (zY E ?_)))))
      refine zY E (zA E (qg E E E) (zK (qaN E (qd (qb (zX E ?_)))))); refine zX E (zK (qo (qm (zI hL (qh E (qh E qi)) ?_ ?_))))
      · rfl
      refine ⟨?_, rfl⟩
      rw [fitR]
      first
        | (rw [if_pos c0, if_pos hh, hvt, if_pos (hcz.2 c2)]; exact .inr E)
        | (rw [if_pos c0, if_pos hh, hvt, if_neg (fun hx => by have := hcz.1 hx; rw [this] at c2; cases c2)]; exact .inl ⟨_, rfl, rfl⟩)
        | (rw [if_pos c0, if_neg (by simp [hh]), ← hb1, ← hb2]; exact .inr E)
        | (rw [if_neg c0, if_pos hab]
           rw [htk] at hp ⊢
           refine .inr ?_
           rw [hp.2]; rfl)
        | (rw [if_neg c0, if_pos hab]
           have e : fitL d l (a.args.zip b.args) = ([], (fitR d (fitL d l ((a.args.zip b.args).take k)).1 q.1 q.2).2) := by
             rw [if_pos c5] at hsn
             have := qdB d ((a.args.zip b.args).take (k + 1)) ((a.args.zip b.args).drop (k + 1)) l (by rw [hsn]; exact c5)
             rw [List.take_append_drop] at this
             rw [this, hsn]
           rw [e]; exact .inl ⟨_, rfl, rfl⟩)
        | (rw [if_neg c0, if_neg (fun hx => by simp only [argsB, Bool.and_eq_true, decide_eq_true_eq] at hx; obtain ⟨⟨⟨_, _⟩, _⟩, _⟩ := hx; first | (simp_all; done) | omega)]; exact .inl ⟨_, rfl, rfl⟩)
        | trace_state
    try simp only[↓cqA,cqB]at g58
    refine zZ E (qe E q8 E) (zZ E (ql E q7 E E E E E) (zZ E (qu E qI E) (zZ E (qe E q8 E) (zZ E (ql E q7 E E E E E) (zZ E (qu E qI E) (zZ E (qj E E E E) (zA E (qg E E E) (zK (qq E (fun c3 => ?_) (fun c3 => ?_))))))))))
    · try simp only[↓cqA,cqB]at c3
      refine qd (qb (zX E (zX E (zK (qo (qm (zI hL (qh E (qh E qi)) ?_ ?_)))))))
      · rfl
      refine ⟨?_, rfl⟩
      rw [fitR]
      first
        | (rw [if_pos c0, if_pos hh, hvt, if_pos (hcz.2 c2)]; exact .inr E)
        | (rw [if_pos c0, if_pos hh, hvt, if_neg (fun hx => by have := hcz.1 hx; rw [this] at c2; cases c2)]; exact .inl ⟨_, rfl, rfl⟩)
        | (rw [if_pos c0, if_neg (by simp [hh]), ← hb1, ← hb2]; exact .inr E)
        | (rw [if_neg c0, if_pos hab]
           rw [htk] at hp ⊢
           refine .inr ?_
           rw [hp.2]; rfl)
        | (rw [if_neg c0, if_pos hab]
           have e : fitL d l (a.args.zip b.args) = ([], (fitR d (fitL d l ((a.args.zip b.args).take k)).1 q.1 q.2).2) := by
             rw [if_pos c5] at hsn
             have := qdB d ((a.args.zip b.args).take (k + 1)) ((a.args.zip b.args).drop (k + 1)) l (by rw [hsn]; exact c5)
             rw [List.take_append_drop] at this
             rw [this, hsn]
           rw [e]; exact .inl ⟨_, rfl, rfl⟩)
        | (rw [if_neg c0, if_neg (fun hx => by simp only [argsB, Bool.and_eq_true, decide_eq_true_eq] at hx; obtain ⟨⟨⟨_, _⟩, _⟩, _⟩ := hx; first | (simp_all; done) | omega)]; exact .inl ⟨_, rfl, rfl⟩)
        | trace_state
    try simp only[↓cqA,cqB]at c3
    have hab : argsB a b = true := by
      simp only [argsB, Bool.and_eq_true, decide_eq_true_eq]
      refine ⟨⟨⟨?_, ?_⟩, ?_⟩, ?_⟩ <;> first | assumption | omega
    have hzl : (a.args.zip b.args).length = a.args.length := by
      have : a.args.length = b.args.length := by omega
      rw [List.length_zip]; omega
    have hzp : ∀ p ∈ a.args.zip b.args, p.1.shp ∧ p.1.wf ∧ mayT p.2 = true ∧ p.2.wf ∧ Gr p.2 := fun p hp => by
      have := List.of_mem_zip hp
      exact ⟨hs.arg this.1, Tm.wfs_mem ha.2.2.2.2 this.1, may_arg hm this.2, Tm.wfs_mem hb.2.2.2.2 this.2, hg.arg this.2⟩
    refine qr (qa (qd (qd (qb (zX E (zK ?_)))))); refine qv (q6 (a.args.length) (fun k => k ≤ a.args.length ∧ (fitL d l ((a.args.zip b.args).take k)).2 = 0) (fun k => ⟨[(0, bdA (fitL d l ((a.args.zip b.args).take k)).1), (4, .ptr 4 0), (5, .ptr 5 0), (9, iv (k : Int))], [(4, .box (lift false (tmD a))), (5, .box (lift false (tmD b)))]⟩) (⟨by omega, by rw [List.take_zero, fitL]⟩) ?_ (fun k hk hp => ?_))
    · exact zR hL (SubT.cons (qan E (by rw [List.take_zero, fitL])) (zC rfl (zC rfl (zC rfl SubT.nil)))) (SubO.cons (qR rfl (by rfl)) (SubO.cons (qR E (by rfl)) SubO.nil))
    have hgg : GG (fitL d l ((a.args.zip b.args).take k)).1 := (fits_spec d _ l hl (fun p hp => hzp p (List.mem_of_mem_take hp)) hp.2).1.gg
    refine qd (qd (qb (zX E (zA E (qe E q8 E) (zA E (ql E q7 E E E E E) (zA E (qu E qI E) (zA E (qj E E E E) ?_))))))); refine zK (qq E (fun c4 => ?_) (fun c4 => ?_))
    · try simp only[↓cqA,cqB]at c4
      obtain ⟨q, hq⟩ := qH (l := a.args.zip b.args) (k := k) (by omega)
      have hqm := hzp q (List.mem_of_getElem? hq)
      have hqz := List.of_mem_zip (List.mem_of_getElem? hq)
      have hqg := List.getElem?_zip_eq_some.1 hq
      have hsn := fitL_snoc d q ((a.args.zip b.args).take k) l hp.2
      rw [← qac hq] at hsn
      refine qr (qa (qd (qv (qd (qZ 16 mixed E E E E (qf E zD (.run E (qk (.inl E) E)) (qf E zD (.run E (qe E q8 E)) ?_))))))); refine qf E zD (.run E (ql E q7 E E E E E)) (qf E zD (.run E (qk (.inl E) E)) (qf E zD (.run E (qp E qI E E (by omega) (qbv hqg.1))) (qf E zD (.run E (qC E qw E E)) (qf E zD (.run E (qe E q8 E)) (qf E zD (.run E (ql E q7 E E E E E)) (qf E zD (.run E (qk (.inl E) E)) (qf E zD (.run E (qp E qI E E (by omega) (qbv hqg.2))) (qf E zD (.run E (qC E qw E E)) ?_))))))))
      refine qf E zD (.run E (qY (avs := [_, _, _]) true E en_almagestref1_Match E E (rMatch_ok d (fitL d l ((a.args.zip b.args).take k)).1 q.1 q.2 (h q.1 hqz.1) hqm.1 hqm.2.1 hgg hqm.2.2.2.1 hqm.2.2.1 hqm.2.2.2.2) (fun _ => rfl) E)) (qf E zD (.run E (qk (.inl E) E)) ?_)
      refine qf E zD (.run E (qay E E E)) (qf E zD (.run E (qay E E E)) (qf E zD (.run E (qk (.inr E) E)) (qak ⟨rfl, rfl, ?_⟩))); refine zX E (zK (qd (qd (qb (zX E (zA E (qj E E E E) (zK (qq E (fun c5 => ?_) (fun c5 => ?_)))))))))
      · try simp only[↓cqA,cqB]at c5
        refine qd (qb (zX E (zX E (zX E (zK (qo ?_)))))); refine qm (qS (qm (qm (qS (qm (zI hL (qh E (qh E qi)) ?_ ?_))))))
        · rfl
        refine ⟨?_, rfl⟩
        rw [fitR]
        first
          | (rw [if_pos c0, if_pos hh, hvt, if_pos (hcz.2 c2)]; exact .inr E)
          | (rw [if_pos c0, if_pos hh, hvt, if_neg (fun hx => by have := hcz.1 hx; rw [this] at c2; cases c2)]; exact .inl ⟨_, rfl, rfl⟩)
          | (rw [if_pos c0, if_neg (by simp [hh]), ← hb1, ← hb2]; exact .inr E)
          | (rw [if_neg c0, if_pos hab]
             rw [htk] at hp ⊢
             refine .inr ?_
             rw [hp.2]; rfl)
          | (rw [if_neg c0, if_pos hab]
             have e : fitL d l (a.args.zip b.args) = ([], (fitR d (fitL d l ((a.args.zip b.args).take k)).1 q.1 q.2).2) := by
               rw [if_pos c5] at hsn
               have := qdB d ((a.args.zip b.args).take (k + 1)) ((a.args.zip b.args).drop (k + 1)) l (by rw [hsn]; exact c5)
               rw [List.take_append_drop] at this
               rw [this, hsn]
             rw [e]; exact .inl ⟨_, rfl, rfl⟩)
          | (rw [if_neg c0, if_neg (fun hx => by simp only [argsB, Bool.and_eq_true, decide_eq_true_eq] at hx; obtain ⟨⟨⟨_, _⟩, _⟩, _⟩ := hx; first | (simp_all; done) | omega)]; exact .inl ⟨_, rfl, rfl⟩)
          | trace_state
      try simp only[↓cqA,cqB]at c5
      rw [if_neg (by simp [c5])] at hsn
      refine qr (qa (qd3 (sub_untag hQ) (qb (zX E (zX E (qc (qP ?_))))))); refine qa (qb (zX E (zA E (qJ E E E (by omega)) (zX E (zK ?_))))); refine ⟨?_, ?_, ?_⟩
      · omega
      · exact ⟨by omega, by rw [hsn]⟩
      exact zR hL (SubT.cons (qan E (by rw [hsn]; rfl)) (zC E (zC E (zC E SubT.nil)))) (SubO.cons (qR E (by rfl)) (SubO.cons (qR E (by rfl)) SubO.nil))
    try simp only[↓cqA,cqB]at c4
    refine qQ (qn (qn (qX ?_))); refine qa (qd ?_)
    have hgb := hgg.gb
    have htk : (a.args.zip b.args).take k = a.args.zip b.args := List.take_of_length_le (by omega)
    refine qb ?_; refine zX E ?_; refine qc1 E E zD (qcD (avs := [_]) true E qbq E E (AC_rnE 3 77 (CopyBinds_ok 5 _ (by have := hgb.len; omega) (fun x hx => qbA (hgb.el x hx).2.2) (fun x hx => (hgb.el x hx).1))) (fun _ => rfl) E) E ?_
    refine qaB (qa4 (l := 77) E zD (noL hL _) E E) (zX E (zX E (zK (qo (zI hL (qh E (qh E qi)) ?_ ?_)))))
    · rfl
    refine ⟨?_, rfl⟩
    rw [fitR]
    first
      | (rw [if_pos c0, if_pos hh, hvt, if_pos (hcz.2 c2)]; exact .inr E)
      | (rw [if_pos c0, if_pos hh, hvt, if_neg (fun hx => by have := hcz.1 hx; rw [this] at c2; cases c2)]; exact .inl ⟨_, rfl, rfl⟩)
      | (rw [if_pos c0, if_neg (by simp [hh]), ← hb1, ← hb2]; exact .inr E)
      | (rw [if_neg c0, if_pos hab]
         rw [htk] at hp ⊢
         refine .inr ?_
         rw [hp.2]; rfl)
      | (rw [if_neg c0, if_pos hab]
         have e : fitL d l (a.args.zip b.args) = ([], (fitR d (fitL d l ((a.args.zip b.args).take k)).1 q.1 q.2).2) := by
           rw [if_pos c5] at hsn
           have := qdB d ((a.args.zip b.args).take (k + 1)) ((a.args.zip b.args).drop (k + 1)) l (by rw [hsn]; exact c5)
           rw [List.take_append_drop] at this
           rw [this, hsn]
         rw [e]; exact .inl ⟨_, rfl, rfl⟩)
      | (rw [if_neg c0, if_neg (fun hx => by simp only [argsB, Bool.and_eq_true, decide_eq_true_eq] at hx; obtain ⟨⟨⟨_, _⟩, _⟩, _⟩ := hx; first | (simp_all; done) | omega)]; exact .inl ⟨_, rfl, rfl⟩)
      | trace_state
theorem orL_tp {α : Type} : ∀ fs : List (α → α → Int), (∀ f ∈ fs, TP f) → TP fun a b => orL (fs.map fun f => f a b)
 | [], _ => TP.zero
 | f :: fs, h => (h f (by simp)).lex (orL_tp fs fun g hg => h g (by simp [hg]))
theorem orL_zeros : ∀ {l : List Int}, orL l = 0 → ∀ x ∈ l, x = 0
  | [], _, x, hx => by cases hx
  | a :: l, h, x, hx => by
    rw [orL] at h
    split at h
    · rename_i h0
      rcases List.mem_cons.1 hx with rfl | hx
      · exact h0
      · exact orL_zeros h x hx
    · exact absurd h (by assumption)
def oneCm (x y : Bd) : Int := orL [cmpS x.name y.name, cmpT 5 x.t y.t]
def onePg (x y : Bd) : Int := orL [cmpS x.name y.name, ordT 5 x.t y.t]
def cmpM (a b : Mt) : Int := orL [cmpG cmpI a.u b.u, cmpI a.fr b.fr, cmpI a.to b.to, cmpG oneCm a.b b.b]
def ordM (a b : Mt) : Int := orL [cmpG cmpI a.u b.u, cmpI a.fr b.fr, cmpI a.to b.to, cmpG onePg a.b b.b]
theorem TP.one : TP oneCm := orL_tp [fun x y : Bd => cmpS x.name y.name, fun x y : Bd => cmpT 5 x.t y.t] (by
 simp only [List.mem_cons, List.not_mem_nil, or_false]
 rintro f (rfl | rfl)
 ·exact TP.str.map Bd.name
 ·exact (TP.tm 5).map Bd.t)
theorem TP.mt : TP cmpM := orL_tp [fun a b : Mt => cmpG cmpI a.u b.u, fun a b : Mt => cmpI a.fr b.fr, fun a b : Mt => cmpI a.to b.to, fun a b : Mt => cmpG oneCm a.b b.b] (by
 simp only [List.mem_cons, List.not_mem_nil, or_false]
 rintro f (rfl | rfl | rfl | rfl)
 ·exact TP.int.listG.map Mt.u
 ·exact TP.int.map Mt.fr
 ·exact TP.int.map Mt.to
 ·exact TP.one.listG.map Mt.b)
def MayM (m : Mt) : Prop := ∀ b ∈ m.b, mayT b.t = true
theorem ins_mem {x : List Bd} {k : Nat} {y b : Bd} (h : b ∈ ins x k y) : b ∈ x ∨ b = y := by
 unfold ins at h
 rcases List.mem_append.1 h with h | h
 ·exact .inl (List.mem_of_mem_take h)
 ·rcases List.mem_cons.1 h with h | h
  ·exact .inr h
  ·exact .inl (List.mem_of_mem_drop h)
theorem bothX_mem : ∀ (l a : List Bd) (b : Bd), b ∈ bothX a l → b ∈ a ∨ b ∈ l
  | [], a, b, h => .inl h
  | y :: l, a, b, h => by
    rcases bothX_mem l (qcx a y) b h with h | h
    · rw [qcx] at h
      split at h
      · exact .inl h
      · rcases ins_mem h with h | rfl
        · exact .inl h
        · exact .inr (by simp)
    · exact .inr (by simp [h])
theorem bothL_gg {a b : List Bd} (ha : GG a) (hb : GG b) : GG (bothL a b) := by
 have hbok := bothL_ok ha.gb.bok hb.gb.bok
 rw [bothL] at hbok ⊢
 split
 ·rename_i h
  rw [if_pos h] at hbok
  have hm : ∀ x ∈ bothX a b, (x.wf ∧ varB x.name = true ∧ mayT x.t = true) ∧ Gr x.t := fun x hx => by
   rcases bothX_mem b a x hx with h | h
   ·exact ⟨ha.gb.el x h, ha.gr x h⟩
   ·exact ⟨hb.gb.el x h, hb.gr x h⟩
  exact ⟨⟨h.2, hbok.ris, fun x hx => (hm x hx).1, fun x hx y hy => absurd hy ((hm x hx).2 y)⟩, fun x hx => (hm x hx).2⟩
 ·exact GG_nil
def isR1 (r : Int) (a b : Int × Int) : Bool :=
 if r = 1 then decide (a.2 < b.1) else if r = 2 then decide (a.2 = b.1) else if r = 3 then decide (a.1 < b.1) && decide (b.1 < a.2) && decide (a.2 < b.2)
 else if r = 4 then decide (a.1 = b.1) && decide (a.2 < b.2) else if r = 5 then decide (b.1 < a.1) && decide (a.2 < b.2) else if r = 6 then decide (a.2 = b.2) && decide (b.1 < a.1) else decide (a.1 = b.1 ∧ a.2 = b.2)
def isR (r : Int) (a b : Int × Int) : Bool := if r ≤ 7 then isR1 r a b else isR1 (14 - r) b a
def liesB (kind rel : Int) (a b : Mt) : Bool := if kind = 2 ∨ kind = 5 then decide (a.to < b.fr) else if kind = 6 then isR rel (a.fr, a.to) (b.fr, b.to) else true
def barB (l : List Bd) (a b : Mt) (x : Mt) : Bool := decide (a.to < x.fr) && decide (x.to < b.fr) && decide (bothE l x.b = 0)
def qb9 (kind rel : Int) (c : List Mt) (a b : Mt) : Option Mt :=
 if liesB kind rel a b = true then
  if bothE a.b b.b = 0 then
   if c.any (barB (bothL a.b b.b) a b) = true then none else some ⟨bothL a.b b.b, min a.fr b.fr, max a.to b.to, a.u ++ b.u⟩
  else none
 else none
def qc8 (t : Tm) (k : Kp) : Option Mt := if (fitR 5 [] t k.f.t).2 = 0 then some ⟨(fitR 5 [] t k.f.t).1, k.f.fr, k.f.to, [k.seq]⟩ else none
def zP : Pt := ⟨0, ⟨0, ⟨#[]⟩, 0, []⟩, 0, [], [], []⟩
def hdP (l : List Pt) : Pt := l.headD zP
def capM (x : List Mt) : List Mt × Bool := if x.length ≤ 1000 then (x, true) else ([], false)
theorem capM_len (x : List Mt) : (capM x).1.length ≤ 1000 := by
 rw [capM]; split
 ·assumption
 ·simp
theorem capM_in {x : List Mt} {m : Mt} (h : m ∈ (capM x).1) : m ∈ x := by
 rw [capM] at h; split at h
 ·exact h
 ·cases h
def mAll : Nat → List Kp → Pt → List Mt × Bool
  | 0, _, _ => ([], false)
  | d + 1, l, p =>
    if p.kind = 1 then (qaS ordM [] (l.filterMap (qc8 p.t)), decide ((qaS ordM [] (l.filterMap (qc8 p.t))).length ≤ 1000))
    else if (mAll d l (hdP p.l)).2 && (mAll d l (hdP p.r)).2 && (p.kind != 5 || (mAll d l (hdP p.c)).2) then
      if p.kind = 4 then (qaS ordM (mAll d l (hdP p.l)).1 (mAll d l (hdP p.r)).1, decide ((qaS ordM (mAll d l (hdP p.l)).1 (mAll d l (hdP p.r)).1).length ≤ 1000))
      else
        capM (qaS ordM [] ((mAll d l (hdP p.l)).1.flatMap fun a => (mAll d l (hdP p.r)).1.filterMap (qb9 p.kind p.rel (if p.kind = 5 then (mAll d l (hdP p.c)).1 else []) a)))
    else ([], false)
structure MOk (n : Nat) (m : Mt) : Prop where
 gg : GG m.b
 lo : -1073741824 ≤ m.fr
 mid : m.fr ≤ m.to
 hi : m.to ≤ 1073741824
 ul : m.u.length ≤ n
 ui : ∀ x ∈ m.u, i64 x
theorem MOk.may {n : Nat} {m : Mt} (h : MOk n m) : MayM m := fun b hb => (h.gg.gb.el b hb).2.2
theorem MOk.mono {n k : Nat} {m : Mt} (h : MOk n m) (hk : n ≤ k) : MOk k m := { h with ul := Nat.le_trans h.ul hk }
theorem putG_in {f : Mt → Mt → Int} {l : List Mt} {t x : Mt} (h : x ∈ putG f l t) : x ∈ l ∨ x = t := by
 rw [putG] at h
 split at h
 ·exact .inl h
 ·rcases List.mem_append.1 h with h | h
  ·exact .inl (List.mem_of_mem_take h)
  ·rcases List.mem_cons.1 h with h | h
   ·exact .inr h
   ·exact .inl (List.mem_of_mem_drop h)
theorem putsG_in {f : Mt → Mt → Int} : ∀ (m l : List Mt) (x : Mt), x ∈ qaS f l m → x ∈ l ∨ x ∈ m
  | [], l, x, h => .inl h
  | t :: m, l, x, h => by
    rcases putsG_in m (putG f l t) x h with h | h
    · rcases putG_in h with h | rfl
      · exact .inl h
      · exact .inr (by simp)
    · exact .inr (by simp [h])
theorem termM_ok {t : Tm} (ht : mayT t = true) (hw : t.wf) {k : Kp} (hk : factB k.f = true) (hkw : k.wf) {m : Mt} (h : qc8 t k = some m) : MOk 1 m := by
 rw [qc8] at h
 split at h
 ·rename_i h0
  cases h
  simp only [factB, spanB, Bool.and_eq_true, decide_eq_true_eq] at hk
  obtain ⟨⟨⟨_, h1⟩, h2⟩, h3⟩ := hk
  exact ⟨(fit_spec 5 [] t k.f.t GG_nil (qdT ht) hw h1 hkw.2.1 ((groundB_iff (qbA h1)).1 h2) h0).1.gg, h3.1, h3.2.1, h3.2.2, by simp, fun x hx => by rw [List.mem_singleton.1 hx]; exact hkw.1⟩
 ·cases h
theorem joinM_ok {n k : Nat} {kind rel : Int} {c : List Mt} {a b m : Mt} (ha : MOk n a) (hb : MOk k b) (h : qb9 kind rel c a b = some m) : MOk (n + k) m := by
 rw [qb9] at h
 split at h
 ·split at h
  ·split at h
   ·cases h
   ·cases h
    have h1 := ha.lo; have h2 := hb.lo; have h3 := ha.mid; have h4 := hb.mid; have h5 := ha.hi; have h6 := hb.hi
    refine ⟨bothL_gg ha.gg hb.gg, ?_, ?_, ?_, ?_, fun x hx => ?_⟩
    ·simp only; omega
    ·simp only; omega
    ·simp only; omega
    ·have := ha.ul; have := hb.ul; simp only [List.length_append]; omega
    ·rcases List.mem_append.1 hx with hx | hx
     ·exact ha.ui x hx
     ·exact hb.ui x hx
  ·cases h
 ·cases h
def zT : Tm := ⟨0, ⟨#[]⟩, 0, []⟩
def patB : Nat → Pt → Bool
  | 0, _ => false
  | d + 1, p =>
    if p.l.length ≤ 1 ∧ p.r.length ≤ 1 ∧ p.c.length ≤ 1 then
      if p.kind = 1 then decide (p.t.kind = 3) && mayT p.t && decide (p.rel = 0) && decide (p.l.length = 0) && decide (p.r.length = 0) && decide (p.c.length = 0)
      else decide (2 ≤ p.kind ∧ p.kind ≤ 6) && eqT 5 p.t zT && decide (p.l.length ≠ 0) && decide (p.r.length ≠ 0) && decide (p.kind = 5 ↔ p.c.length = 1) && decide (p.kind = 6 ↔ 1 ≤ p.rel ∧ p.rel ≤ 13) && decide (p.kind ≠ 6 → p.rel = 0)
        && patB d (hdP p.l) && patB d (hdP p.r) && (decide (p.c.length = 0) || patB d (hdP p.c))
    else false
theorem qdJ {l : List Pt} (h : l.length ≠ 0) : l[0]? = some (hdP l) := by
 cases l with
 | nil => exact absurd E h
 | cons a l => rfl
theorem zP_wf : zP.wf := ⟨by decide, ⟨by decide, by decide, by decide, by decide, trivial⟩, by decide, ⟨by simp [qba, zP], trivial⟩, ⟨by simp [qba, zP], trivial⟩, by simp [qba, zP], trivial⟩
theorem hdP_wf {l : List Pt} (h : Pt.wfs l) : (hdP l).wf := by
 cases l with
 | nil => exact zP_wf
 | cons a l => exact (Pt.wf0_iff a).1 h.1
theorem patB_term {d : Nat} {p : Pt} (h : patB (d + 1) p = true) (hk : p.kind = 1) : mayT p.t = true ∧ p.t.kind = 3 := by
 rw [patB] at h
 split at h
 ·simp only [hk, if_true, Bool.and_eq_true, decide_eq_true_eq] at h
  exact ⟨h.1.1.1.1.2, h.1.1.1.1.1⟩
 ·cases h
theorem patB_join {d : Nat} {p : Pt} (h : patB (d + 1) p = true) (hk : p.kind ≠ 1) : (2 ≤ p.kind ∧ p.kind ≤ 6) ∧ p.l.length = 1 ∧ p.r.length = 1 ∧ (p.kind = 5 ↔ p.c.length = 1) ∧ (p.kind = 6 → 1 ≤ p.rel ∧ p.rel ≤ 13) ∧ patB d (hdP p.l) = true ∧ patB d (hdP p.r) = true ∧ (p.kind = 5 → patB d (hdP p.c) = true) ∧ p.c.length ≤ 1 := by
 rw [patB] at h
 split at h
 ·rename_i hl
  simp only [hk, if_false, Bool.and_eq_true, Bool.or_eq_true, decide_eq_true_eq] at h
  obtain ⟨⟨⟨⟨⟨⟨⟨⟨⟨h1, h2⟩, h3⟩, h4⟩, h5⟩, h6⟩, h7⟩, h8⟩, h9⟩, h10⟩ := h
  refine ⟨h1, by omega, by omega, h5, h6.1, h8, h9, fun hk5 => ?_, hl.2.2⟩
  have := h5.1 hk5
  rcases h10 with h10 | h10
  ·omega
  ·exact h10
 ·cases h
theorem mAll_ok {l : List Kp} (hl : listB l = true) (hw : ∀ k ∈ l, k.wf) : ∀ (d : Nat) (p : Pt), p.wf → patB d p = true → (mAll d l p).1.length ≤ 1000 ∨ (mAll d l p).2 = false
  | 0, p, _, h => by rw [patB] at h; cases h
  | d + 1, p, hp, h => by
    rw [mAll]
    split
    · simp only []
      by_cases h : (qaS ordM [] (l.filterMap (qc8 p.t))).length ≤ 1000
      · exact .inl h
      · exact .inr (decide_eq_false h)
    · split
      · by_cases h4 : p.kind = 4
        · rw [if_pos h4]
          by_cases h : (qaS ordM (mAll d l (hdP p.l)).1 (mAll d l (hdP p.r)).1).length ≤ 1000
          · exact .inl h
          · exact .inr (decide_eq_false h)
        · rw [if_neg h4]; exact .inl (capM_len _)
      · exact .inr E
theorem mAll_mem {l : List Kp} (hl : listB l = true) (hw : ∀ k ∈ l, k.wf) : ∀ (d : Nat) (p : Pt), p.wf → patB d p = true → ∀ m ∈ (mAll d l p).1, MOk (2 ^ d) m
  | 0, p, _, h => by rw [patB] at h; cases h
  | d + 1, p, hp, h => by
    have hf := (listB_may hl).2
    intro m hm
    rw [mAll] at hm
    split at hm
    · rename_i hk
      obtain ⟨h1, _⟩ := patB_term h hk
      rcases putsG_in _ _ m hm with h2 | h2
      · cases h2
      · obtain ⟨k, hk1, hk2⟩ := List.mem_filterMap.1 h2
        exact (termM_ok h1 hp.2.1 (hf k hk1) (hw k hk1) hk2).mono (Nat.one_le_two_pow)
    · rename_i hk
      obtain ⟨_, _, _, _, _, h1, h2, _⟩ := patB_join h hk
      have hA := mAll_mem hl hw d (hdP p.l) (hdP_wf hp.2.2.2.1.2) h1
      have hB := mAll_mem hl hw d (hdP p.r) (hdP_wf hp.2.2.2.2.1.2) h2
      have h2d : 2 ^ (d + 1) = 2 ^ d + 2 ^ d := by rw [Nat.pow_succ]; omega
      have hp1 : 1 ≤ 2 ^ d := Nat.one_le_two_pow
      split at hm
      · by_cases h4 : p.kind = 4
        · rw [if_pos h4] at hm
          rcases putsG_in _ _ m hm with h3 | h3
          · exact (hA m h3).mono (by omega)
          · exact (hB m h3).mono (by omega)
        · rw [if_neg h4] at hm
          rcases putsG_in _ _ m (capM_in hm) with h3 | h3
          · cases h3
          · obtain ⟨a, ha, h3⟩ := List.mem_flatMap.1 h3
            obtain ⟨b, hb, h3⟩ := List.mem_filterMap.1 h3
            rw [h2d]
            exact joinM_ok (hA a ha) (hB b hb) h3
      · cases hm
def freshB (gone : List Int) (m : Mt) : Bool := !(m.u.any fun n => gone.any fun g => decide (g = n))
def takeB (policy : Int) (m b : Mt) : Bool :=
 if policy = 1 then decide (-(m.fr - b.fr) < 0) || (decide (-(m.fr - b.fr) = 0) && decide (-(cmpM m b) < 0))
 else decide (m.fr - b.fr < 0) || (decide (m.fr - b.fr = 0) && decide (cmpM m b < 0))
def bestS (policy : Int) (gone : List Int) (at' : Option (Nat × Mt)) (im : Nat × Mt) : Option (Nat × Mt) :=
 if policy = 2 ∧ freshB gone im.2 = false then at' else match at' with
  | none => some im
  | some b => if takeB policy im.2 b.2 = true then some im else some b
def qc5 (policy : Int) (gone : List Int) : Nat → List Mt → Option (Nat × Mt) → Option (Nat × Mt)
 | _, [], a => a
 | i, m :: l, a => qc5 policy gone (i + 1) l (bestS policy gone a (i, m))
theorem bestL_snoc (policy : Int) (gone : List Int) : ∀ (l : List Mt) (i : Nat) (a : Option (Nat × Mt)) (m : Mt), qc5 policy gone i (l ++ [m]) a = bestS policy gone (qc5 policy gone i l a) (i + l.length, m)
  | [], i, a, m => rfl
  | b :: l, i, a, m => by
    rw [List.cons_append, qc5, qc5, bestL_snoc policy gone l, List.length_cons]
    congr 2
    omega
theorem bestL_take (policy : Int) (gone : List Int) {l : List Mt} {k : Nat} {m : Mt} (h : l[k]? = some m) : qc5 policy gone 0 (l.take (k + 1)) none = bestS policy gone (qc5 policy gone 0 (l.take k) none) (k, m) := by
 rw [qac h, bestL_snoc, Nat.zero_add, List.length_take]
 congr 2
 have := (List.getElem?_eq_some_iff.1 h).1
 omega
theorem bestL_in (policy : Int) (gone : List Int) (l : List Mt) : ∀ k, k ≤ l.length → ∀ b, qc5 policy gone 0 (l.take k) none = some b → l[b.1]? = some b.2 ∧ b.1 < k ∧ (policy = 2 → freshB gone b.2 = true)
  | 0, _, b, h => by simp [qc5] at h
  | k + 1, hk, b, h => by
    obtain ⟨m, hm⟩ := qH (l := l) (k := k) (by omega)
    rw [bestL_take policy gone hm] at h
    unfold bestS at h
    have ih := bestL_in policy gone l k (by omega)
    have hme : ¬ (policy = 2 ∧ freshB gone m = false) → l[k]? = some m ∧ k < k + 1 ∧ (policy = 2 → freshB gone m = true) := fun hn => ⟨hm, by omega, fun hp => by
      cases hf : freshB gone m with
      | true => rfl
      | false => exact absurd ⟨hp, hf⟩ hn⟩
    split at h
    · obtain ⟨h1, h2, h3⟩ := ih b h
      exact ⟨h1, by omega, h3⟩
    · rename_i hn
      split at h
      · cases h; exact hme hn
      · rename_i c hc
        split at h
        · cases h; exact hme hn
        · cases h
          obtain ⟨h1, h2, h3⟩ := ih b hc
          exact ⟨h1, by omega, h3⟩
theorem bestL_recent (gone : List Int) (l : List Mt) : ∀ k, k ≤ l.length → (0 < k → ∃ b, qc5 1 gone 0 (l.take k) none = some b) ∧ ∀ b, qc5 1 gone 0 (l.take k) none = some b → ∀ (j : Nat) (m : Mt), j < k → l[j]? = some m → m.fr ≤ b.2.fr
  | 0, _ => ⟨fun h => absurd h (by omega), fun b h => by simp [qc5] at h⟩
  | k + 1, hk => by
    obtain ⟨m, hm⟩ := qH (l := l) (k := k) (by omega)
    obtain ⟨i1, i2⟩ := bestL_recent gone l k (by omega)
    rw [bestL_take 1 gone hm]
    unfold bestS
    rw [if_neg (by simp)]
    cases hc : qc5 1 gone 0 (l.take k) none with
    | none =>
      refine ⟨fun _ => ⟨_, rfl⟩, fun b h j u hj hu => ?_⟩
      cases h
      have hk0 : k = 0 := by
        rcases Nat.eq_zero_or_pos k with h | h
        · exact h
        · obtain ⟨c, h2⟩ := i1 h; rw [hc] at h2; cases h2
      subst hk0
      rw [show j = 0 by omega, hm] at hu
      cases hu; exact Int.le_refl _
    | some c =>
      simp only []
      split
      · rename_i ht
        refine ⟨fun _ => ⟨_, rfl⟩, fun b h j u hj hu => ?_⟩
        cases h
        simp only [takeB, if_true, Bool.or_eq_true, Bool.and_eq_true, decide_eq_true_eq] at ht
        have hcm : c.2.fr ≤ m.fr := by omega
        by_cases hjk : j = k
        · subst hjk; rw [hm] at hu; cases hu; exact Int.le_refl _
        · exact Int.le_trans (i2 c hc j u (by omega) hu) hcm
      · rename_i ht
        refine ⟨fun _ => ⟨_, rfl⟩, fun b h j u hj hu => ?_⟩
        cases h
        by_cases hjk : j = k
        · subst hjk; rw [hm] at hu; cases hu
          simp only [takeB, if_true, Bool.or_eq_true, Bool.and_eq_true, decide_eq_true_eq] at ht
          omega
        · exact i2 c hc j u (by omega) hu
theorem none_iff (t : Tm) : qbD t = true ↔ t = zeroTm := by
 simp only [qbD, zeroTm, Bool.and_eq_true, decide_eq_true_eq]
 constructor
 ·rintro ⟨⟨⟨h1, h2⟩, h3⟩, h4⟩
  cases t; simp only at h1 h2 h3 h4; rw [h1, h2, h3, List.eq_nil_of_length_eq_zero h4]
 ·rintro rfl; simp
theorem noneB_iff (t : Tm) : qbD t = true ↔ t = zT := none_iff t
theorem qcQ (t : Tm) : eqT 5 t zT = qbD t := by
  rw [Bool.eq_iff_iff, noneB_iff]
  obtain ⟨k, nm, n, l⟩ := t
  constructor
  · intro h
    rw [eqT] at h
    simp only [Bool.and_eq_true] at h
    obtain ⟨⟨⟨h1, h2⟩, h3⟩, h4⟩ := h
    have e1 : k = 0 := of_decide_eq_true h1
    have e3 : n = 0 := of_decide_eq_true h3
    have hl : l = [] := by cases l with
      | nil => rfl
      | cons a l => cases h4
    obtain ⟨⟨d⟩⟩ := nm
    have e2 : d = [] := of_decide_eq_true h2
    subst e1; subst e2; subst e3; subst hl; rfl
  · intro h
    rw [h]
    exact (eqT_iff 5 zT zT (by simp [zT, dle])).2 rfl
def qbx (p : Pt) : Bool :=
 if p.kind = 1 then decide (p.l.length + p.r.length + p.c.length = 0) && decide (p.rel = 0) && decide (p.t.kind = 3) && mayT p.t
 else if 2 ≤ p.kind ∧ p.kind ≤ 6 then decide (p.l.length = 1) && decide (p.r.length = 1) && decide (p.c.length = if p.kind = 5 then 1 else 0) && (if p.kind = 6 then decide (1 ≤ p.rel ∧ p.rel ≤ 13) else decide (p.rel = 0)) && qbD p.t
 else false
theorem patB_fields (d : Nat) (p : Pt) : patB (d + 1) p = (qbx p && (decide (p.kind = 1) || (patB d (hdP p.l) && patB d (hdP p.r) && (decide (p.c.length = 0) || patB d (hdP p.c))))) := by
 rw [patB, qbx, qcQ]
 generalize qbD p.t = b1
 generalize patB d (hdP p.l) = b2
 generalize patB d (hdP p.r) = b3
 generalize patB d (hdP p.c) = b4
 generalize mayT p.t = b5
 generalize p.t.kind = tk
 generalize p.l.length = L
 generalize p.r.length = R
 generalize p.c.length = C
 generalize p.rel = q
 generalize p.kind = k
 by_cases h1 : k = 1
 ·simp only [h1, if_true, decide_true, Bool.true_or, Bool.and_true]
  rw [Bool.eq_iff_iff]
  cases b5
  ·simp
  ·split <;> simp <;> omega
 ·simp only [h1, if_false, decide_false, Bool.false_or]
  by_cases h2 : 2 ≤ k ∧ k ≤ 6
  ·rw [if_pos h2]
   cases b1 <;> cases b2 <;> cases b3 <;> (try (simp; done))
   rw [Bool.eq_iff_iff]
   by_cases h5 : k = 5
   ·subst h5
    cases b4 <;> split <;> simp <;> omega
   ·by_cases h6 : k = 6
    ·subst h6
     cases b4 <;> split <;> simp <;> omega
    ·simp only [h5, h6, if_false]
     cases b4 <;> split <;> simp <;> omega
  ·rw [if_neg h2]
   split <;> simp [h2]
def sumP (f : Pt → Int) (l : List Pt) : Int := (l.map f).sum
def qcc : Nat → Pt → Int
 | 0, _ => 0
 | d + 1, p => if p.kind = 1 then 1 else sumP (qcc d) (p.l ++ p.r ++ p.c)
def mayPtL (f : Pt → Int → Bool × Int) : List Pt → Int → Bool × Int
 | [], n => (true, n)
 | a :: l, n => if (f a n).1 = true then mayPtL f l (f a n).2 else (false, (f a n).2)
def qcz : Nat → Pt → Int → Bool × Int
 | 0, _, n => (false, n)
 | d + 1, p, n => if qbx p = true then (if p.kind = 1 then (decide (0 ≤ n - 1), n - 1) else mayPtL (qcz d) (p.l ++ p.r ++ p.c) n) else (false, n)
theorem partsP_ge : ∀ (d : Nat) (p : Pt), 0 ≤ qcc d p
  | 0, _ => Int.le_refl _
  | d + 1, p => by
    have key : ∀ l : List Pt, 0 ≤ sumP (qcc d) l := by
      intro l
      induction l with
      | nil => simp [sumP]
      | cons a l ih =>
        have := partsP_ge d a
        simp only [sumP, List.map_cons, List.sum_cons] at ih ⊢
        omega
    rw [qcc]; split
    · decide
    · exact key _
theorem mayPtL_spec {f : Pt → Int → Bool × Int} {v : Pt → Bool} {g : Pt → Int} (h : ∀ p n, 0 ≤ n → ((f p n).1 = true ↔ v p = true ∧ g p ≤ n) ∧ ((f p n).1 = true → (f p n).2 = n - g p)) (hg : ∀ p, 0 ≤ g p) : ∀ (l : List Pt) (n : Int), 0 ≤ n → ((mayPtL f l n).1 = true ↔ l.all v = true ∧ sumP g l ≤ n) ∧ ((mayPtL f l n).1 = true → (mayPtL f l n).2 = n - sumP g l)
  | [], n, hn => by simp [mayPtL, sumP, hn]
  | a :: l, n, hn => by
    obtain ⟨h1, h2⟩ := h a n hn
    have hs : sumP g (a :: l) = g a + sumP g l := by simp [sumP]
    have hsl : ∀ l : List Pt, 0 ≤ sumP g l := by
      intro l
      induction l with
      | nil => simp [sumP]
      | cons a l ih => have := hg a; simp only [sumP, List.map_cons, List.sum_cons] at ih ⊢; omega
    have hs0 := hsl l
    rw [mayPtL]
    split
    · rename_i ht
      have e := h2 ht
      have hv := h1.1 ht
      obtain ⟨i1, i2⟩ := mayPtL_spec h hg l (f a n).2 (by omega)
      rw [i1, hs, List.all_cons, Bool.and_eq_true, e]
      refine ⟨⟨fun ⟨a1, a2⟩ => ⟨⟨hv.1, a1⟩, by omega⟩, fun ⟨⟨_, a1⟩, a2⟩ => ⟨a1, by omega⟩⟩, fun h3 => ?_⟩
      have := i2 (i1.2 ⟨h3.1, by omega⟩)
      rw [e] at this; omega
    · rename_i ht
      refine ⟨⟨fun h3 => (by cases h3), fun ⟨h3, h4⟩ => ?_⟩, fun h3 => (by cases h3)⟩
      rw [List.all_cons, Bool.and_eq_true] at h3
      exact absurd (h1.2 ⟨h3.1, by omega⟩) ht
theorem one_list {l : List Pt} (h : l.length = 1) : l = [hdP l] := by
  cases l with
  | nil => simp at h
  | cons a l => cases l with
    | nil => rfl
    | cons b l => simp at h
theorem mayPt_spec : ∀ (d : Nat) (p : Pt) (n : Int), 0 ≤ n → ((qcz d p n).1 = true ↔ patB d p = true ∧ qcc d p ≤ n) ∧ ((qcz d p n).1 = true → (qcz d p n).2 = n - qcc d p)
  | 0, p, n, hn => by simp [qcz, patB]
  | d + 1, p, n, hn => by
    rw [patB_fields, qcc, qcz]
    by_cases hf : qbx p = true
    · rw [if_pos hf, hf]
      by_cases hk : p.kind = 1
      · simp only [hk, if_true, decide_true, Bool.true_or, Bool.and_true, decide_eq_true_eq, true_and]
        refine ⟨by omega, ?_⟩
        first | exact fun _ => rfl | exact fun _ => trivial | trivial
      · rw [if_neg hk, if_neg hk, decide_eq_false hk]
        simp only [Bool.true_and, Bool.false_or]
        obtain ⟨i1, i2⟩ := mayPtL_spec (mayPt_spec d) (partsP_ge d) (p.l ++ p.r ++ p.c) n hn
        rw [i1]
        refine ⟨?_, fun h => i2 (i1.2 h)⟩
        rw [qbx, if_neg hk] at hf
        split at hf
        · simp only [Bool.and_eq_true, decide_eq_true_eq] at hf
          obtain ⟨⟨⟨⟨h1, h2⟩, h3⟩, _⟩, _⟩ := hf
          rw [List.all_append, List.all_append, one_list h1, one_list h2]
          simp only [List.all_cons, List.all_nil, Bool.and_true, hdP, List.headD_cons]
          by_cases hc : p.c.length = 0
          · rw [List.eq_nil_of_length_eq_zero hc]; simp
          · have hc1 : p.c.length = 1 := by split at h3 <;> omega
            rw [one_list hc1]; simp [hdP]
        · cases hf
    · rw [if_neg hf]
      have hf2 : qbx p = false := by simpa using hf
      rw [hf2]; simp
section
variable {α : Type}
def thrK0 (f : α → Int → Bool × Int) : Nat → List α → Int → Int
 | 0, _, n => n
 | _ + 1, [], n => n
 | k + 1, a :: l, n => thrK0 f k l (f a n).2
def thrK (f : α → Int → Bool × Int) (l : List α) (n : Int) (k : Nat) : Int := thrK0 f k l n
def thrP (f : α → Int → Bool × Int) : List α → Int → Nat → Bool
 | [], _, _ => false
 | a :: _, n, 0 => !(f a n).1
 | a :: l, n, k + 1 => thrP f l (f a n).2 k
theorem thrK_step (f : α → Int → Bool × Int) : ∀ (l : List α) (n : Int) (k : Nat) (u : α), l[k]? = some u → (∀ j, j < k → thrP f l n j = false) → thrP f l n k = !(f u (thrK f l n k)).1 ∧ thrK f l n (k + 1) = (f u (thrK f l n k)).2
  | [], n, k, u, hu, _ => by simp at hu
  | a :: l, n, 0, u, hu, _ => by
    simp only [List.getElem?_cons_zero, Option.some.injEq] at hu
    subst hu
    cases l <;> simp [thrP, thrK, thrK0]
  | a :: l, n, k + 1, u, hu, h => by
    simpa only [thrP, thrK, thrK0] using thrK_step f l (f a n).2 k u (by simpa using hu) (fun j hj => by simpa [thrP] using h (j + 1) (by omega))
theorem thrK_range (f : α → Int → Bool × Int) (h : ∀ t n, 0 ≤ n → -1 ≤ (f t n).2 ∧ (f t n).2 ≤ n ∧ ((f t n).1 = true → 0 ≤ (f t n).2)) : ∀ (l : List α) (n : Int) (k : Nat), 0 ≤ n → (∀ j, j < k → thrP f l n j = false) → k ≤ l.length → 0 ≤ thrK f l n k ∧ thrK f l n k ≤ n
  | l, n, 0, hn, _, _ => by cases l <;> simp [thrK, thrK0] <;> omega
  | [], n, k + 1, hn, _, hk => by simp at hk
  | a :: l, n, k + 1, hn, hj, hk => by
    have h0 := hj 0 (by omega)
    simp only [thrP, Bool.not_eq_false'] at h0
    have h1 := h a n hn
    have := thrK_range f h l (f a n).2 k (h1.2.2 h0) (fun j hj' => by simpa [thrP] using hj (j + 1) (by omega)) (by simpa using hk)
    simp only [thrK, thrK0] at this ⊢; omega
end
theorem mayPtL_range (f : Pt → Int → Bool × Int) (h : ∀ t n, 0 ≤ n → -1 ≤ (f t n).2 ∧ (f t n).2 ≤ n ∧ ((f t n).1 = true → 0 ≤ (f t n).2)) : ∀ (l : List Pt) (n : Int), 0 ≤ n → -1 ≤ (mayPtL f l n).2 ∧ (mayPtL f l n).2 ≤ n ∧ ((mayPtL f l n).1 = true → 0 ≤ (mayPtL f l n).2)
  | [], n, hn => by simp [mayPtL]; omega
  | a :: l, n, hn => by
    have h1 := h a n hn
    simp only [mayPtL]
    split
    · rename_i hb
      have := mayPtL_range f h l (f a n).2 (h1.2.2 hb)
      exact ⟨this.1, by omega, this.2.2⟩
    · exact ⟨h1.1, h1.2.1, by simp⟩
theorem mayPt_range : ∀ (d : Nat) (t : Pt) (n : Int), 0 ≤ n → -1 ≤ (qcz d t n).2 ∧ (qcz d t n).2 ≤ n ∧ ((qcz d t n).1 = true → 0 ≤ (qcz d t n).2)
  | 0, t, n, hn => by simp [qcz]; omega
  | d + 1, t, n, hn => by
    simp only [qcz]
    split
    · split
      · simp; omega
      · exact mayPtL_range (qcz d) (fun t n hn => mayPt_range d t n hn) _ n hn
    · simp; omega
theorem mayPtL_end (f : Pt → Int → Bool × Int) : ∀ (l : List Pt) (n : Int) (m k : Nat) (b : Bool), (∀ j, j < m → thrP f l n j = false) → ((m < l.length ∧ thrP f l n m = true ∧ b = true ∧ k = m + 1) ∨ (m = l.length ∧ b = false ∧ k = m)) → mayPtL f l n = (!b, thrK f l n k)
  | [], n, m, k, b, _, hc => by
    rcases hc with ⟨h, _⟩ | ⟨rfl, rfl, rfl⟩
    · simp at h
    · simp [mayPtL, thrK, thrK0]
  | a :: l, n, 0, k, b, _, hc => by
    rcases hc with ⟨_, h, rfl, rfl⟩ | ⟨h, _⟩
    · simp only [thrP, Bool.not_eq_true'] at h
      cases l <;> simp [mayPtL, thrK, thrK0, h]
    · simp at h
  | a :: l, n, m + 1, k, b, hj, hc => by
    have h0 := hj 0 (by omega)
    simp only [thrP, Bool.not_eq_false'] at h0
    obtain ⟨k, rfl⟩ : ∃ k', k = k' + 1 := by rcases hc with ⟨_, _, _, rfl⟩ | ⟨_, _, rfl⟩ <;> exact ⟨_, rfl⟩
    have := mayPtL_end f l (f a n).2 m k b (fun j hj' => by simpa [thrP] using hj (j + 1) (by omega)) (by
      rcases hc with ⟨h1, h2, h3, h4⟩ | ⟨h1, h2, h3⟩
      · exact .inl ⟨by simpa using h1, by simpa [thrP] using h2, h3, by omega⟩
      · exact .inr ⟨by simpa using h1, h2, by omega⟩)
    simp only [mayPtL, h0, if_true, this, thrK, thrK0]
def okP (p : Pt) : Bool := (qcz 8 p 12).1
theorem okP_iff (p : Pt) : okP p = true ↔ patB 8 p = true ∧ qcc 8 p ≤ 12 := (mayPt_spec 8 p 12 (by omega)).1
def okR (r : Rl) : Bool := decide (r.head.kind = 3) && mayT r.head && okP r.body && okGs r.g && decide (0 ≤ r.within) && decide (r.within ≤ 1073741824) && decide (0 ≤ r.policy) && decide (r.policy ≤ 2)
end Go.Proofs.YtpgceiijoedppaaGreat
