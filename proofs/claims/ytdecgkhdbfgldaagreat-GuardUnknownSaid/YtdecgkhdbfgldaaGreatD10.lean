/- Part 10 of the proof: Fo, Fp, Fq, Fr, Fs. -/
import Derived.Test.YtdecgkhdbfgldaaGreatD9
set_option linter.unusedVariables false
set_option linter.unusedSimpArgs false
set_option maxRecDepth 8000
namespace Go.Proofs.YtdecgkhdbfgldaaGreat
open Go
theorem bl_irrefl : ∀ l : List UInt8, Op.bytesLess l l = false
  | [] => rfl
  | x :: l => by simp [Op.bytesLess, bl_irrefl l]
theorem bl_trans : ∀ a b c : List UInt8, Op.bytesLess a b = true → Op.bytesLess b c = true → Op.bytesLess a c = true
  | [], _, [], _, h2 => by cases ‹List UInt8› <;> simp [Op.bytesLess] at h2
  | [], _, _ :: _, _, _ => by simp [Op.bytesLess]
  | _ :: _, [], _, h1, _ => by simp [Op.bytesLess] at h1
  | _ :: _, _ :: _, [], _, h2 => by simp [Op.bytesLess] at h2
  | x :: a, y :: b, z :: c, h1, h2 => by
    have ih := bl_trans a b c
    simp only [Op.bytesLess, Bool.or_eq_true, decide_eq_true_eq, Bool.and_eq_true, beq_iff_eq] at h1 h2 ⊢
    rcases h1 with h1 | ⟨rfl, h1⟩
    · rcases h2 with h2 | ⟨rfl, h2⟩
      · exact .inl (UInt8.lt_trans h1 h2)
      · exact .inl h1
    · rcases h2 with h2 | ⟨rfl, h2⟩
      · exact .inl h2
      · exact .inr ⟨rfl, ih h1 h2⟩
theorem bl_tri : ∀ a b : List UInt8, Op.bytesLess a b = true ∨ a = b ∨ Op.bytesLess b a = true
  | [], [] => .inr (.inl rfl)
  | [], _ :: _ => .inl (by simp [Op.bytesLess])
  | _ :: _, [] => .inr (.inr (by simp [Op.bytesLess]))
  | x :: a, y :: b => by
    have ih := bl_tri a b
    simp only [Op.bytesLess, Bool.or_eq_true, decide_eq_true_eq, Bool.and_eq_true, beq_iff_eq, List.cons.injEq]
    rcases Nat.lt_trichotomy x.toNat y.toNat with h | h | h
    · exact .inl (.inl (UInt8.lt_iff_toNat_lt.2 h))
    · have := UInt8.toNat_inj.1 h; subst this
      rcases ih with h | h | h
      · exact .inl (.inr ⟨rfl, h⟩)
      · exact .inr (.inl ⟨rfl, h⟩)
      · exact .inr (.inr (.inr ⟨rfl, h⟩))
    · exact .inr (.inr (.inl (UInt8.lt_iff_toNat_lt.2 h)))
theorem ltS_irrefl (a : ByteArray) : ltS a a = false := bl_irrefl _
theorem ltS_trans {a b c : ByteArray} (h1 : ltS a b = true) (h2 : ltS b c = true) : ltS a c = true := bl_trans _ _ _ h1 h2
theorem ltS_tri (a b : ByteArray) : ltS a b = true ∨ a = b ∨ ltS b a = true := by
  rcases bl_tri a.toList b.toList with h | h | h
  · exact .inl h
  · exact .inr (.inl (toList_inj.1 h))
  · exact .inr (.inr h)
theorem cmpS_neg (a b : ByteArray) : cmpS a b < 0 ↔ ltS a b = true := by
  rw [cmpS_eq]; split
  · simp_all
  · split <;> simp_all
def RisB (l : List Bd) : Prop := l.Pairwise (fun a b => ltS a.name b.name = true)
def posB (l : List Bd) (s : ByteArray) : Nat := (l.takeWhile (fun b => ltS b.name s)).length
def lookB (l : List Bd) (s : ByteArray) : Option Tm := (l.find? (fun b => decide (b.name = s))).map Bd.t
def hasB (l : List Bd) (s : ByteArray) : Bool := l.any (fun b => decide (b.name = s))
theorem posB_le (l : List Bd) (s : ByteArray) : posB l s ≤ l.length := (List.takeWhile_prefix _).length_le
theorem posB_eq (s : ByteArray) : ∀ (l : List Bd) (k : Nat), k ≤ l.length → (∀ (j : Nat) (b : Bd), j < k → l[j]? = some b → ltS b.name s = true) → (∀ b, l[k]? = some b → ltS b.name s = false) → posB l s = k
  | [], k, h, _, _ => by simp at h; subst h; rfl
  | a :: l, 0, _, _, h2 => by
    have := h2 a (by simp)
    simp [posB, List.takeWhile_cons, this]
  | a :: l, k + 1, h, h1, h2 => by
    have h0 := h1 0 a (by omega) (by simp)
    have ih := posB_eq s l k (by simpa using h) (fun j b hj hs => h1 (j + 1) b (by omega) (by simpa using hs)) (fun b hs => h2 b (by simpa using hs))
    simp only [posB] at ih ⊢
    rw [List.takeWhile_cons, if_pos h0, List.length_cons, ih]
theorem RisB.lt {l : List Bd} (h : RisB l) {i j : Nat} {a b : Bd} (hij : i < j) (ha : l[i]? = some a) (hb : l[j]? = some b) : ltS a.name b.name = true := by
  obtain ⟨h1, rfl⟩ := List.getElem?_eq_some_iff.1 ha
  obtain ⟨h2, rfl⟩ := List.getElem?_eq_some_iff.1 hb
  exact List.pairwise_iff_getElem.1 h i j h1 h2 hij
theorem posB_spec (s : ByteArray) : ∀ (l : List Bd), (∀ (j : Nat) (b : Bd), j < posB l s → l[j]? = some b → ltS b.name s = true) ∧ ∀ b, l[posB l s]? = some b → ltS b.name s = false
  | [] => ⟨fun j b h => by simp [posB] at h, fun b h => by simp at h⟩
  | a :: l => by
    have ih := posB_spec s l
    by_cases h : ltS a.name s = true
    · have e : posB (a :: l) s = posB l s + 1 := by simp [posB, List.takeWhile_cons, h]
      rw [e]
      refine ⟨fun j b hj hb => ?_, fun b hb => ih.2 b (by simpa using hb)⟩
      cases j with
      | zero => simp only [List.getElem?_cons_zero, Option.some.injEq] at hb; subst hb; exact h
      | succ j => exact ih.1 j b (by omega) (by simpa using hb)
    · have e : posB (a :: l) s = 0 := by simp [posB, List.takeWhile_cons, h]
      rw [e]
      refine ⟨fun j b hj => absurd hj (by omega), fun b hb => ?_⟩
      simp only [List.getElem?_cons_zero, Option.some.injEq] at hb; subst hb; simpa using h
theorem hasB_pos {l : List Bd} (h : RisB l) (s : ByteArray) : hasB l s = (match l[posB l s]? with | some b => decide (b.name = s) | none => false) := by
  obtain ⟨hp, hq⟩ := posB_spec s l
  rw [Bool.eq_iff_iff]
  constructor
  · intro ha
    simp only [hasB, List.any_eq_true, decide_eq_true_eq] at ha
    obtain ⟨b, hb, rfl⟩ := ha
    obtain ⟨j, hj⟩ := List.getElem?_of_mem hb
    have hjl := (List.getElem?_eq_some_iff.1 hj).1
    have e : j = posB l b.name := by
      rcases Nat.lt_trichotomy j (posB l b.name) with h1 | h1 | h1
      · have := hp j b h1 hj; rw [ltS_irrefl] at this; cases this
      · exact h1
      · obtain ⟨x, hx⟩ := qK (l := l) (k := posB l b.name) (by omega)
        have h2 := h.lt h1 hx hj
        rw [hq x hx] at h2; cases h2
    rw [← e, hj]; simp
  · intro ha
    split at ha
    · rename_i b hb
      simp only [decide_eq_true_eq] at ha
      simp only [hasB, List.any_eq_true, decide_eq_true_eq]
      exact ⟨b, List.mem_of_getElem? hb, ha⟩
    · cases ha
def bsI (p : Nat → Bool) (n : Nat) : Nat → Nat × Nat
  | 0 => (0, n)
  | k + 1 => let q := bsI p n k; if p ((q.1 + q.2) / 2) then ((q.1 + q.2) / 2 + 1, q.2) else (q.1, (q.1 + q.2) / 2)
def bdP (l : List Bd) (s : ByteArray) (i : Nat) : Bool := match l[i]? with
  | some b => ltS b.name s
  | none => false
theorem find1_ok (b : Bd) (s : ByteArray) : PF 150 [.agg (lift false (bdD b)), sv s] (iv (cmpS b.name s)) := by
  refine qG Tryz.func150 rfl Tryz.ntmps150 (Nat.le_of_ble_eq_true rfl) fun c hL hQ hDD => (qd (qb (qz rfl rfl (by decide) (qab 2 rfl rfl rfl) rfl (zN rfl rfl rfl (qc (qa (qd ?_))))))); refine qb (zA rfl (qg rfl qai rfl) (zA rfl (qr rfl qT rfl rfl rfl rfl rfl) ?_))
  refine zM rfl rfl rfl (qC (avs := [_, _]) true rfl rfl rfl (by decide) en_strings_Compare rfl rfl (stringsCompare_ok _ _) rfl rfl (zN rfl rfl rfl (qc (qa (qm ?_)))))
  -- leaf 
  refine ret0 (noL hL) (.inl rfl) (qf rfl (qh)) ?_ ?_
  · rfl
  exact ⟨rfl, rfl⟩
theorem half_conv {i j : Nat} (h : i + j ≤ 9223372036854775807) : IntKind.i64.wrap (IntKind.u64.wrap ((i : Int) + (j : Int)) / 2 ^ min (1 : Int).toNat IntKind.u64.bits) = (((i + j) / 2 : Nat) : Int) := by
  have e1 : IntKind.u64.wrap ((i : Int) + (j : Int)) = ((i + j : Nat) : Int) := by
    simp only [IntKind.wrap, IntKind.signed, IntKind.bits]
    show (if (false && _) = true then _ else _) = _
    rw [if_neg (by simp)]
    show ((i : Int) + (j : Int)) % 18446744073709551616 = _
    push_cast
    omega
  rw [e1, show ((2 : Int) ^ min (1 : Int).toNat IntKind.u64.bits) = 2 from rfl]
  rw [wrap_in (by omega)]
  omega
theorem find_bs (l : List Bd) (s : ByteArray) (hr : RisB l) (hl : l.length ≤ 1000000) : AC Tryz.prog 149 [.dat false 5 (bdDs l), sv s, .fn 150 []] [] (fun r O => r = .tup [iv (posB l s), bv (hasB l s)] ∧ O = []) := by
  have hlen := qak l
  have hmono : ∀ (a b : Nat), a < b → bdP l s b = true → bdP l s a = true := fun a b hab hb => by
    unfold bdP at hb ⊢
    cases hx : l[b]? with
    | none => rw [hx] at hb; cases hb
    | some y =>
      rw [hx] at hb
      obtain ⟨x, hxa⟩ := qK (l := l) (k := a) (by have := (List.getElem?_eq_some_iff.1 hx).1; omega)
      rw [hxa]
      exact ltS_trans (hr.lt hab hxa hx) hb
  refine qG Tryz.func149 rfl Tryz.ntmps149 (Nat.le_of_ble_eq_true rfl) fun c hL hQ hDD => (qd (qb (zN rfl rfl rfl (zN rfl rfl rfl (qc (qa (qd ?_))))))); refine qb (zM rfl rfl rfl (zA rfl (qy rfl qp rfl) ?_))
  refine zN rfl rfl rfl (qc (qa (qd (qb (zM rfl rfl rfl (zN rfl rfl rfl (zN rfl rfl rfl ?_))))))); refine qc (qa (qd (qB ?_)))
  refine qV (l.length) (fun k => (bsI (bdP l s) l.length k).1 ≤ (bsI (bdP l s) l.length k).2 ∧ (bsI (bdP l s) l.length k).2 ≤ l.length ∧ (bsI (bdP l s) l.length k).2 - (bsI (bdP l s) l.length k).1 + k ≤ l.length ∧ (∀ j, j < (bsI (bdP l s) l.length k).1 → bdP l s j = true) ∧ (∀ j, (bsI (bdP l s) l.length k).2 ≤ j → bdP l s j = false)) (fun k => ⟨[(0, .dat false 5 (bdDs l)), (1, sv s), (2, .fn 150 []), (8, iv (bdDs l).length), (9, iv ((bsI (bdP l s) l.length k).1 : Int)), (10, iv ((bsI (bdP l s) l.length k).2 : Int))], []⟩) (⟨by simp [bsI], by simp [bsI], by simp [bsI], fun j hj => absurd hj (by simp [bsI]), fun j hj => by simp only [bsI] at hj; simp [bdP, List.getElem?_eq_none hj]⟩) ?_ (fun k hk hp => ?_)
  · exact qI (SubT.cons (zT rfl) (SubT.cons (zT rfl) (SubT.cons (zT rfl) (SubT.cons (zT rfl) (SubT.cons (qbg rfl (by rfl)) (SubT.cons (qbg rfl (by simp [bsI, qak])) (SubT.nil))))))) (SubO.nil) rfl rfl (noL' (noL hL) _)
  obtain ⟨hp1, hp2, hp3, hp4, hp5⟩ := hp
  generalize hI : (bsI (bdP l s) l.length k).1 = I at *
  generalize hJ : (bsI (bdP l s) l.length k).2 = J at *
  refine qd (qd (qb (zM rfl rfl rfl (zM rfl rfl rfl (zA rfl (qn rfl rfl rfl rfl) (qc (qa ?_))))))); refine qu rfl (fun c0 => ?_) (fun c0 => ?_)
  · try simp only [↓cqA, cqB] at c0
    obtain ⟨u, hu⟩ := qK (l := l) (k := (I + J) / 2) (by omega)
    refine qt (qa (qB (qd (qb (zM rfl rfl rfl (zM rfl rfl rfl (zA rfl (qM rfl rfl rfl (by omega)) ?_))))))); refine zA rfl (qc5 rfl us_int ul_uint rfl) ?_
    refine zA rfl (stp_shr rfl rfl rfl (by decide)) (zA rfl (qc5 rfl us_uint ul_int rfl) (zN rfl rfl rfl (qc (qa (qd (qb ?_))))))
    rw [half_conv (by omega)]
    refine zM rfl rfl rfl (zM rfl rfl rfl (zM rfl rfl rfl (zA rfl (qo rfl qp rfl rfl (by omega) (qaI hu)) (zA rfl (qD rfl qav rfl rfl) ?_))))
    refine zM rfl rfl rfl (qC (avs := [_, _]) true rfl rfl rfl (by decide) en_bind_find_1 rfl rfl (find1_ok u s) rfl rfl (zA rfl (qn rfl rfl rfl rfl) (qc (qa (qu rfl (fun c1 => ?_) (fun c1 => ?_))))))
    · try simp only [↓cqA, cqB] at c1
      have hpm1 : bdP l s ((I + J) / 2) = true := by simp only [bdP, hu]; exact (cmpS_neg _ _).1 c1
      have hs1 : bsI (bdP l s) l.length (k + 1) = ((I + J) / 2 + 1, J) := by simp only [bsI, hI, hJ, hpm1, if_true]
      refine qb (zM rfl rfl rfl (zA rfl (qM rfl rfl rfl (by omega)) (zN rfl rfl rfl (qc (qP (qa ?_)))))); refine ⟨?_, ?_, ?_⟩
      · skip
        omega
      · skip
        have hs : bsI (bdP l s) l.length (k + 1) = if bdP l s ((I + J) / 2) then ((I + J) / 2 + 1, J) else (I, (I + J) / 2) := by simp only [bsI, hI, hJ]
        have hpm : bdP l s ((I + J) / 2) = ltS u.name s := by simp [bdP, hu]
        rw [hs, hpm]
        by_cases hc : ltS u.name s = true
        · rw [if_pos hc]
          refine ⟨by simp only; omega, by simp only; omega, by simp only; omega, fun j hj => ?_, fun j hj => hp5 j hj⟩
          rcases Nat.lt_or_ge j ((I + J) / 2) with h1 | h1
          · exact hmono j _ h1 (hpm.trans hc)
          · rw [show j = (I + J) / 2 by simp only at hj; omega, hpm]; exact hc
        · rw [if_neg hc]
          refine ⟨by simp only; omega, by simp only; omega, by simp only; omega, hp4, fun j hj => ?_⟩
          cases h1 : bdP l s j with
          | false => rfl
          | true =>
            exfalso
            rcases Nat.eq_or_lt_of_le hj with h2 | h2
            · simp only at h2; rw [← h2, hpm] at h1; exact hc h1
            · have := hmono _ j h2 h1
              rw [hpm] at this; exact hc this
      exact qI (SubT.cons (zT rfl) (SubT.cons (zT rfl) (SubT.cons (zT rfl) (SubT.cons (zT rfl) (SubT.cons (qbg rfl (by simp [hs1])) (SubT.cons (qbg rfl (by simp [hs1])) (SubT.nil))))))) (SubO.nil) rfl rfl (noL' (noL hL) _)
    try simp only [↓cqA, cqB] at c1
    have hpm1 : bdP l s ((I + J) / 2) = false := by
      simp only [bdP, hu]
      cases h : ltS u.name s with
      | false => rfl
      | true => have := (cmpS_neg _ _).2 h; omega
    have hs1 : bsI (bdP l s) l.length (k + 1) = (I, (I + J) / 2) := by simp only [bsI, hI, hJ, hpm1]; rfl
    refine qb (zM rfl rfl rfl (zN rfl rfl rfl (qc (qP (qa ?_))))); refine ⟨?_, ?_, ?_⟩
    · skip
      omega
    · skip
      have hs : bsI (bdP l s) l.length (k + 1) = if bdP l s ((I + J) / 2) then ((I + J) / 2 + 1, J) else (I, (I + J) / 2) := by simp only [bsI, hI, hJ]
      have hpm : bdP l s ((I + J) / 2) = ltS u.name s := by simp [bdP, hu]
      rw [hs, hpm]
      by_cases hc : ltS u.name s = true
      · rw [if_pos hc]
        refine ⟨by simp only; omega, by simp only; omega, by simp only; omega, fun j hj => ?_, fun j hj => hp5 j hj⟩
        rcases Nat.lt_or_ge j ((I + J) / 2) with h1 | h1
        · exact hmono j _ h1 (hpm.trans hc)
        · rw [show j = (I + J) / 2 by simp only at hj; omega, hpm]; exact hc
      · rw [if_neg hc]
        refine ⟨by simp only; omega, by simp only; omega, by simp only; omega, hp4, fun j hj => ?_⟩
        cases h1 : bdP l s j with
        | false => rfl
        | true =>
          exfalso
          rcases Nat.eq_or_lt_of_le hj with h2 | h2
          · simp only at h2; rw [← h2, hpm] at h1; exact hc h1
          · have := hmono _ j h2 h1
            rw [hpm] at this; exact hc this
    exact qI (SubT.cons (zT rfl) (SubT.cons (zT rfl) (SubT.cons (zT rfl) (SubT.cons (zT rfl) (SubT.cons (qbg rfl (by simp [hs1])) (SubT.cons (qbg rfl (by simp [hs1])) (SubT.nil))))))) (SubO.nil) rfl rfl (noL' (noL hL) _)
  try simp only [↓cqA, cqB] at c0
  refine qQ (qq (qq (q7 ?_))); refine qa (qd (qb (zM rfl rfl rfl (zM rfl rfl rfl (zM rfl rfl rfl (zA rfl (qn rfl rfl rfl rfl) (zM rfl rfl rfl ?_))))))); refine qA 39 rfl (fun g39 => ?_) (fun g39 => ?_)
  · try simp only [↓cqA, cqB] at g39
    obtain ⟨v, hv⟩ := qK (l := l) (k := I) (by omega)
    refine zG rfl rfl rfl rfl (qk (.inl rfl) rfl) (zG rfl rfl rfl rfl (qk (.inl rfl) rfl) (zG rfl rfl rfl rfl (qk (.inl rfl) rfl) (zG rfl rfl rfl rfl (qo rfl qp rfl rfl (by omega) (qaI hv)) (zG rfl rfl rfl rfl (qD rfl qav rfl rfl) ?_))))
    refine zG rfl rfl rfl rfl (qk (.inl rfl) rfl) (zG rfl rfl rfl rfl (qN (avs := [_, _]) true rfl en_bind_find_1 rfl rfl (find1_ok v s) (fun _ => rfl) rfl) (zG rfl rfl rfl rfl (qn rfl rfl rfl rfl) (zA rfl (qj rfl rfl rfl) (zN rfl rfl rfl (zN rfl rfl rfl (qc (qa ?_))))))); refine qm ?_
    -- leaf 0Fg39T
    refine ret0 (noL hL) (.inl rfl) (qf rfl (qf rfl (qh))) ?_ ?_
    · rfl
    refine ⟨?_, rfl⟩
    have hIJ : I = J := by omega
    have e1 : posB l s = I := posB_eq s l I (by omega) (fun j b hj hb => by have := hp4 j hj; simpa [bdP, hb] using this) (fun b hb => by have := hp5 I (by omega); simpa [bdP, hb] using this)
    have e2 := hasB_pos hr s
    rw [e1] at e2 ⊢
    rw [e2]
    try rw [hv]
    try rw [List.getElem?_eq_none (by omega)]
    first | rfl | (simp only [Value.bool.injEq, resV]; congr; rw [Bool.eq_iff_iff]; simp [cmpS_zero])
  try simp only [↓cqA, cqB] at g39
  refine zS rfl rfl rfl rfl (zS rfl rfl rfl rfl (zS rfl rfl rfl rfl (zS rfl rfl rfl rfl (zS rfl rfl rfl rfl (zS rfl rfl rfl rfl ?_)))))
  refine zS rfl rfl rfl rfl (zS rfl rfl rfl rfl (zA rfl (qj rfl rfl rfl) (zN rfl rfl rfl (zN rfl rfl rfl (qc (qa (qm ?_)))))))
  -- leaf 0Fg39F
  refine ret0 (noL hL) (.inl rfl) (qf rfl (qf rfl (qh))) ?_ ?_
  · rfl
  refine ⟨?_, rfl⟩
  have hIJ : I = J := by omega
  have e1 : posB l s = I := posB_eq s l I (by omega) (fun j b hj hb => by have := hp4 j hj; simpa [bdP, hb] using this) (fun b hb => by have := hp5 I (by omega); simpa [bdP, hb] using this)
  have e2 := hasB_pos hr s
  rw [e1] at e2 ⊢
  rw [e2]
  try rw [hv]
  try rw [List.getElem?_eq_none (by omega)]
  first | rfl | (simp only [Value.bool.injEq, resV]; congr; rw [Bool.eq_iff_iff]; simp [cmpS_zero])
end Go.Proofs.YtdecgkhdbfgldaaGreat

set_option linter.unusedVariables false
set_option linter.unusedSimpArgs false
set_option maxRecDepth 8000
namespace Go.Proofs.YtdecgkhdbfgldaaGreat
open Go
theorem some_get {α : Type} {l : List α} {junk : List (Option α)} {j : Nat} {d : α} (h : l[j]? = some d) : (l.map some ++ junk)[j]? = some (some d) := by
  rw [List.getElem?_append_left (by simpa using (List.getElem?_eq_some_iff.1 h).1), List.getElem?_map, h]; rfl
theorem splice_end {α : Type} (l m : List α) {r : List α} (h : m.length ≤ r.length) : qal (l ++ r) l.length m = l ++ m ++ r.drop m.length := by
  simp only [qal]
  rw [List.take_append_of_le_length (Nat.le_refl _), List.take_length, List.drop_append, List.drop_eq_nil_of_le (by omega), List.nil_append]
  congr 2; omega
theorem InsertNil_bd9_ok (f : Bool) (d : List D) (hd : d.length = 5) :
    ACt Tryz.prog 156 [.imm (.slice none 0 0), iv 0, .row 59] [(59, .rowd 40 5 f [d])] (fun r O => r = .row 200 ∧ O = [(200, .rowd 40 5 f [d]), (59, .rowd 40 5 f [d])]) := by
  have hone : [d].length = 1 := rfl
  refine ACt_intro Tryz.func156 rfl Tryz.ntmps156 (Nat.le_of_ble_eq_true rfl) fun c hL hDD => (qd (qb (zN rfl rfl rfl (qc (qa (qd (qb ?_))))))); refine zM rfl rfl rfl (zM rfl rfl rfl (zA rfl (stp_slnL rfl qp rfl rfl (by omega)) ?_))
  refine qc (qa (qd (qb (zM rfl rfl rfl (zA rfl (qbI rfl qp rfl rfl) ?_)))))
  refine zN rfl rfl rfl (qc (qa (qd (qd (qb (zM rfl rfl rfl (zA rfl (qn rfl rfl rfl rfl) ?_))))))); refine qc (qa (qu rfl (fun c0 => ?_) (fun c0 => ?_)))
  · try simp only [↓cqA, cqB] at c0
    exfalso; simp at c0
  try simp only [↓cqA, cqB] at c0
  refine qt (qa (qd (qb (zM rfl rfl rfl (zA rfl (stp_len_nil rfl qp rfl) ?_)))))
  refine zN rfl rfl rfl (qc (qa (qd (qd (qb (zM rfl rfl rfl (zM rfl rfl rfl ?_))))))); refine zA rfl (qn rfl rfl rfl rfl) (qc (qa (qu rfl (fun c1 => ?_) (fun c1 => ?_))))
  · try simp only [↓cqA, cqB] at c1
    refine qd ?_; refine qb ?_; refine zM rfl rfl rfl ?_; refine zM rfl rfl rfl ?_; refine qar (qaL (t := 23) (l := 23) 40 5 f rfl rfl) ?_; refine qdg 200 qaW rfl rfl (by decide) rfl rfl rfl (src_rowd rfl rfl) rfl (fun x hx => by simp at hx; rw [hx, hd]) (oneL' hL rfl) rfl (by simp) rfl ?_; refine zN rfl rfl rfl ?_; refine qc ?_; refine qa ?_; refine qm ?_; refine ql (?_)
    -- leaf 0F1T
    change retQ _ _ _ _ _ _ _
    refine retO (O' := [(200, _), (59, _)]) (.inl rfl) (qf rfl qh) (SubO.cons rfl (SubO.cons rfl SubO.nil)) ?_ ?_ (oneL hL rfl) ?_
    · rfl
    · rfl
    exact ⟨rfl, rfl⟩
  try simp only [↓cqA, cqB] at c1
  exact absurd trivial c1
set_option maxHeartbeats 2000000 in
theorem Insert_bd9_ok (f : Bool) (es : List (List D)) (d : List D) (i cap : Nat) (hi : i ≤ es.length) (hcap : es.length ≤ cap) (hmax : cap ≤ maxLen) (hes : ∀ x ∈ es, x.length = 5) (hd : d.length = 5) (hb : (es.length + 1) * 72 ≤ 140737488355328) :
    ACt Tryz.prog 156 [.vw 9 0 es.length cap, iv i, .row 59] [(9, .arr 40 5 f (es.map some ++ List.replicate (cap - es.length) none)), (59, .rowd 40 5 f [d])]
      (fun r O => ∃ junk, (r = .vw 9 0 (es.length + 1) cap ∧ cap = (ins es i d).length + junk.length ∧ O = [(9, .arr 40 5 f ((ins es i d).map some ++ junk)), (59, .rowd 40 5 f [d])]) ∨
        ∃ cap', r = .vw 200 0 (es.length + 1) cap' ∧ cap' = (ins es i d).length + junk.length ∧ O = [(200, .arr 40 5 f ((ins es i d).map some ++ junk)), (9, .arr 40 5 f (es.map some ++ List.replicate (cap - es.length) none)), (59, .rowd 40 5 f [d])]) := by
  have hmx : maxLen = 9223372036854775807 := rfl
  have hlen : (es.map some ++ List.replicate (cap - es.length) (none : Option (List D))).length = cap := by simp; omega
  have hil := qa0 es i d hi
  have hone : [d].length = 1 := rfl
  have hoff1 : ∀ q : Nat, i < q → (if (q : Int) = (i : Int) then 0 else 0 + (i : Int).toNat * 5) = i * 5 := fun q h => by rw [if_neg (by omega)]; simp
  have hoff2 : ∀ q : Nat, i + 1 < q → (if (q : Int) = (i : Int) + ([d].length : Int) then 0 else 0 + ((i : Int) + ([d].length : Int)).toNat * 5) = (i + 1) * 5 := fun q h => by rw [if_neg (by simp; omega), Nat.zero_add]; congr 1
  have hdr : ∀ (j : Nat) (x : List D), (es.drop i)[j]? = some x → es[i + j]? = some x := fun j x hx => by rwa [List.getElem?_drop] at hx
  refine ACt_intro Tryz.func156 rfl Tryz.ntmps156 (Nat.le_of_ble_eq_true rfl) fun c hL hDD => (qd (qb (zN rfl rfl rfl (qc (qa (qd (qb ?_))))))); refine zM rfl rfl rfl (zM rfl rfl rfl (zA rfl (qbW rfl qp rfl rfl (by omega) (by omega) (by omega)) ?_))
  refine qc (qa (qd (qb (zM rfl rfl rfl (zA rfl (qbI rfl qp rfl rfl) ?_)))))
  refine zN rfl rfl rfl (qc (qa (qd (qd (qb (zM rfl rfl rfl (zA rfl (qn rfl rfl rfl rfl) ?_))))))); refine qc (qa (qu rfl (fun c0 => ?_) (fun c0 => ?_)))
  · try simp only [↓cqA, cqB] at c0
    exfalso; simp at c0
  try simp only [↓cqA, cqB] at c0
  refine qt (qa (qd (qb (zM rfl rfl rfl (zA rfl (stp_len_vw rfl qp rfl) ?_)))))
  refine zN rfl rfl rfl (qc (qa (qd (qd (qb (zM rfl rfl rfl (zM rfl rfl rfl ?_))))))); refine zA rfl (qn rfl rfl rfl rfl) (qc (qa (qu rfl (fun c1 => ?_) (fun c1 => ?_))))
  · try simp only [↓cqA, cqB] at c1
    refine qd (qb (zM rfl rfl rfl (zM rfl rfl rfl (awps_append_vw 200 es [d] qaW rfl rfl (by decide) rfl rfl rfl hlen.symm hcap (src_rowd rfl rfl) (by simp) rfl (fun j x hx => some_get hx) rfl (by simpa using hb) (by decide) (fun hroom => ?_) (fun hgr cap' hc1 hc2 => ?_)))))
    · skip
      refine zN rfl rfl rfl (qc (qa (qm (ql (?_)))))
      change retQ _ _ _ _ _ _ _
      have hie : i = es.length := by omega
      refine retO (O' := [(9, _), (59, _)]) (.inl rfl) (qf rfl qh) (SubO.cons rfl (SubO.cons rfl SubO.nil)) ?_ ?_ (LO hL rfl) ?_
      · rfl
      · rfl
      simp only [List.length_singleton] at hroom
      refine ⟨List.replicate (cap - es.length - 1) none, .inl ⟨rfl, by rw [hil, List.length_replicate]; omega, ?_⟩⟩
      congr 3
      subst hie
      have hse := splice_end (es.map some) ([d].map some) (r := List.replicate (cap - es.length) none) (by simp; omega)
      rw [List.length_map] at hse
      rw [hse]
      simp [ins]
    refine zN rfl rfl rfl (qc (qa (qm (ql (?_)))))
    change retQ _ _ _ _ _ _ _
    have hie : i = es.length := by omega
    refine retO (O' := [(200, _), (9, _), (59, _)]) (.inl rfl) (qf rfl qh) (SubO.cons rfl (SubO.cons rfl (SubO.cons rfl SubO.nil))) ?_ ?_ (fun l hl => ?_) ?_
    · rfl
    · rfl
    · have := (hL l).1 hl
      simp only [inD, qaF] at this ⊢
      split
      · rfl
      · exact this
    simp only [List.length_singleton] at hc1
    refine ⟨List.replicate (cap' - (es ++ [d]).length) none, .inr ⟨cap', rfl, by rw [hil, List.length_replicate]; simp; omega, ?_⟩⟩
    subst hie
    simp only [ins, List.take_length, List.drop_length]
  try simp only [↓cqA, cqB] at c1
  refine qt (qa (qd (qd (qb (zM rfl rfl rfl (zM rfl rfl rfl (zA rfl (qM rfl rfl rfl (by omega)) ?_))))))); refine zM rfl rfl rfl (zA rfl (stp_cap_vw rfl qp rfl) ?_)
  refine zA rfl (qn rfl rfl rfl rfl) (qc (qa (qu rfl (fun c2 => ?_) (fun c2 => ?_))))
  · try simp only [↓cqA, cqB] at c2
    refine qd (qb (zM rfl rfl rfl (zM rfl rfl rfl (zA rfl (stp_slvH rfl qp rfl rfl (by omega) (by omega) (by omega)) ?_))))
    refine zM rfl rfl rfl ?_; refine zM rfl rfl rfl ?_; refine zA rfl (qM rfl rfl rfl (by omega)) ?_; refine zM rfl rfl rfl ?_; refine zA rfl (stp_sub rfl rfl rfl (by omega)) ?_; refine awps_growz_vw 200 (es.take i) qaW rfl rfl (by decide) ul_int rfl rfl rfl rfl (by simp; omega) (by simp; omega) (fun j x hx => by
    rw [List.getElem?_take] at hx
    split at hx
    · exact some_get hx
    · cases hx) rfl (by simp; simp at c2; omega) (by simp; omega) (by decide) (fun cap' hc1 hc2 => ?_)
    refine zN rfl rfl rfl (qc (qa (qd (qb (zM rfl rfl rfl (zM rfl rfl rfl (zA rfl (qbW rfl qp rfl rfl (by omega) (by omega) (by omega)) ?_)))))))
    refine zM rfl rfl rfl ?_; refine awps_copy i [d] rfl rfl (by decide) qp rfl rfl rfl (hoff1 _ (by simp at hc1; omega)) (src_rowd rfl rfl) (by simp; omega) (by simp at hc1; simp; omega) ?_; refine qc ?_; refine qa ?_; refine qd ?_; refine q8 8 qbd rfl rfl rfl rfl ?_
    refine qe rfl (by decide) (.run rfl (qk (.inl rfl) rfl)) (qe rfl (by decide) (.run rfl (qk (.inl rfl) rfl)) (qe rfl (by decide) (.run rfl (qk (.inl rfl) rfl)) (qe rfl (by decide) (.run rfl (qM rfl rfl rfl (by omega))) (qe rfl (by decide) (.run rfl (qbW rfl qp rfl rfl (by omega) (by omega) (by omega))) (qe rfl (by decide) (.run rfl (qk (.inl rfl) rfl)) (qe rfl (by decide) (.run rfl (qk (.inl rfl) rfl)) ?_))))))
    refine qe rfl (by decide) (.run rfl (qbW rfl qp rfl rfl (by omega) (by omega) (by omega))) ?_; refine qau ⟨rfl, rfl, ?_⟩; refine awps_copy (i + 1) (es.drop i) rfl rfl (by decide) qp rfl rfl rfl (hoff2 _ (by simp at hc1; omega)) (src_vw (i := i) rfl rfl (hoff1 _ (by omega)) (fun j x hx => some_get (hdr j x hx)) (by simp)) (by simp; omega) (by rw [qaX (by simp; omega)]; simp; omega) ?_; refine qc ?_; refine qa ?_; refine qd ?_
    refine qb (zM rfl rfl rfl (zN rfl rfl rfl (qc (qa (qm (ql (?_)))))))
    change retQ _ _ _ _ _ _ _
    refine retO (O' := [(200, _), (9, _), (59, _)]) (.inl rfl) (qf rfl qh) (SubO.cons rfl (SubO.cons rfl (SubO.cons rfl SubO.nil))) ?_ ?_ (fun l hl => ?_) ?_
    · rfl
    · rfl
    · have := (hL l).1 hl
      simp only [inD, qaF] at this ⊢
      split
      · rfl
      · exact this
    have hc3 : es.length + 1 ≤ cap' := by omega
    refine ⟨List.replicate (cap' - (es.length + 1)) none, .inr ⟨cap', ?_, by rw [hil, List.length_replicate]; omega, ?_⟩⟩
    · rw [show (i : Int).toNat + ((es.length : Int) + ([d].length : Int) - (i : Int)).toNat = es.length + 1 by omega]; rfl
    · have hf := ins_fresh (es.map some) i cap' (some d) none (by simpa using hi) (by simpa using hc3)
      simp only [← List.map_take, ← List.map_drop, List.length_map] at hf
      rw [ins_map, List.map_cons, List.map_nil, hf]
  try simp only [↓cqA, cqB] at c2
  refine qt (qa (qd (qb (zM rfl rfl rfl (zM rfl rfl rfl (zM rfl rfl rfl (zA rfl (qM rfl rfl rfl (by omega)) ?_))))))); refine zA rfl (stp_slvH rfl qp rfl rfl (by omega) (by omega) (by omega)) ?_
  refine zN rfl rfl rfl (qc (qa (qd (qd (qb (zM rfl rfl rfl (zM rfl rfl rfl ?_))))))); refine zM rfl rfl rfl (zM rfl rfl rfl (zA rfl (qM rfl rfl rfl (by omega)) ?_))
  refine zA rfl (qbW rfl qp rfl rfl (by omega) (by omega) (by omega)) ?_; refine zA rfl (stp_overlaps Tryz.func213 (by kernel_rfl) (by kernel_rfl) (by kernel_rfl) (by kernel_rfl) rfl rfl rfl qp rfl rfl rfl rfl rfl (by decide) (by simp; omega) (by simp)) ?_; refine zA rfl (qU rfl rfl) ?_; refine qc ?_; refine qa ?_; refine qu rfl (fun c3 => ?_) (fun c3 => ?_)
  · try simp only [↓cqA, cqB] at c3
    refine qd (q8 8 qbd rfl rfl rfl rfl (qe rfl (by decide) (.run rfl (qk (.inl rfl) rfl)) (qe rfl (by decide) (.run rfl (qk (.inl rfl) rfl)) (qe rfl (by decide) (.run rfl (qk (.inl rfl) rfl)) (qe rfl (by decide) (.run rfl (qM rfl rfl rfl (by omega))) (qe rfl (by decide) (.run rfl (qbW rfl qp rfl rfl (by omega) (by omega) (by omega))) ?_))))))
    refine qe rfl (by decide) (.run rfl (qk (.inl rfl) rfl)) (qe rfl (by decide) (.run rfl (qk (.inl rfl) rfl)) (qe rfl (by decide) (.run rfl (qbW rfl qp rfl rfl (by omega) (by omega) (by omega))) ?_))
    refine qau ⟨rfl, rfl, ?_⟩; refine awps_copy (i + 1) (es.drop i) rfl rfl (by decide) qp rfl rfl rfl (hoff2 _ (by simp at c2; omega)) (src_vw (i := i) rfl rfl (hoff1 _ (by omega)) (fun j x hx => some_get (hdr j x hx)) (by simp; omega)) (by simp; omega) (by simp at c2; simp; omega) ?_; refine qc ?_; refine qa ?_; refine qd ?_; refine qb ?_; refine zM rfl rfl rfl ?_; refine zM rfl rfl rfl ?_
    refine zA rfl (qbW rfl qp rfl rfl (by omega) (by omega) (by omega)) ?_; refine zM rfl rfl rfl ?_; refine awps_copy i [d] rfl rfl (by decide) qp rfl rfl rfl (hoff1 _ (by simp at c2; omega)) (src_rowd rfl rfl) (by simp; omega) (by rw [qaX (by simp; omega)]; simp; omega) ?_; refine qc ?_; refine qa ?_; refine qd ?_; refine qb ?_
    refine zM rfl rfl rfl (zN rfl rfl rfl (qc (qa (qm (ql (?_))))))
    change retQ _ _ _ _ _ _ _
    refine retO (O' := [(9, _), (59, _)]) (.inl rfl) (qf rfl qh) (SubO.cons rfl (SubO.cons rfl SubO.nil)) ?_ ?_ (LO hL rfl) ?_
    · rfl
    · rfl
    have hc3 : es.length + 1 ≤ cap := by omega
    refine ⟨(List.replicate (cap - es.length) none).drop 1, .inl ⟨?_, by rw [hil]; simp; omega, ?_⟩⟩
    · rw [show ((es.length : Int) + ([d].length : Int)).toNat = es.length + 1 by omega]; rfl
    · have hf := ins_splice (es.map some) (List.replicate (cap - es.length) none) i (some d) (by simp; omega) (by simp; omega)
      simp only [← List.map_drop] at hf
      rw [ins_map, List.map_cons, List.map_nil, hf]
  try simp only [↓cqA, cqB] at c3
  exfalso; simp at c3
end Go.Proofs.YtdecgkhdbfgldaaGreat

set_option linter.unusedVariables false
set_option linter.unusedSimpArgs false
set_option maxRecDepth 8000
namespace Go.Proofs.YtdecgkhdbfgldaaGreat
open Go
def zeroTm : Tm := ⟨0, ⟨#[]⟩, 0, []⟩
def lookT (l : List Bd) (s : ByteArray) : Tm := (lookB l s).getD zeroTm
theorem zero_le (f : Bool) : Le (.agg [iv 0, sv ⟨#[]⟩, iv 0, .imm (.slice none 0 0)]) (.agg (lift f (tmD zeroTm))) := .agg (.cons .refl (.cons .refl (.cons .refl (.cons .nil .nil))))
theorem find_ok (l : List Bd) (s : ByteArray) (hr : RisB l) (hl : l.length ≤ 1000000) : PF 90 [.dat false 5 (bdDs l), sv s] (.tup [iv (posB l s), bv (hasB l s)]) := by
  refine qG Tryz.func90 rfl Tryz.ntmps90 (Nat.le_of_ble_eq_true rfl) fun c hL hQ hDD => (qd (qb (zN rfl rfl rfl (zN rfl rfl rfl (qc (qa (qd ?_))))))); refine qb ?_
  refine zM rfl rfl rfl (zM rfl rfl rfl (qC (avs := [_, _, _]) false rfl rfl rfl (by decide) qbK rfl rfl (find_bs l s hr hl) rfl rfl (zA rfl (qY rfl rfl rfl) ?_)))
  refine zA rfl (qY rfl rfl rfl) (zN rfl rfl rfl (zN rfl rfl rfl (qc (qa (qm ?_)))))
  -- leaf 
  refine ret0 (noL hL) (.inl rfl) (qf rfl (qf rfl (qh))) ?_ ?_
  · rfl
  exact ⟨rfl, rfl⟩
theorem lookB_has (l : List Bd) (s : ByteArray) (hr : RisB l) : hasB l s = (lookB l s).isSome ∧ (hasB l s = true → ∃ b, l[posB l s]? = some b ∧ b.name = s ∧ lookB l s = some b.t) := by
  have key : ∀ l : List Bd, hasB l s = (lookB l s).isSome := fun l => by
    induction l with
    | nil => rfl
    | cons a l ih =>
      by_cases h : a.name = s
      · simp [hasB, lookB, List.find?_cons, h]
      · simp only [hasB, lookB, List.any_cons, List.find?_cons, h, decide_false, Bool.false_or]
        exact ih
  refine ⟨key l, fun h => ?_⟩
  have h2 := hasB_pos hr s
  rw [h] at h2
  cases hb : l[posB l s]? with
  | none => rw [hb] at h2; cases h2
  | some b =>
    rw [hb] at h2
    have hn : b.name = s := of_decide_eq_true h2.symm
    refine ⟨b, rfl, hn, ?_⟩
    have huniq : ∀ x ∈ l, x.name = s → x = b := fun x hx hxs => by
      obtain ⟨j, hj⟩ := List.getElem?_of_mem hx
      rcases Nat.lt_trichotomy j (posB l s) with h1 | h1 | h1
      · have := hr.lt h1 hj hb; rw [hxs, hn, ltS_irrefl] at this; cases this
      · rw [h1, hb] at hj; cases hj; rfl
      · have := hr.lt h1 hb hj; rw [hxs, hn, ltS_irrefl] at this; cases this
    cases hf : l.find? (fun b => decide (b.name = s)) with
    | none =>
      have := List.find?_eq_none.1 hf b (List.mem_of_getElem? hb)
      simp [hn] at this
    | some x =>
      have h3 := List.find?_some hf
      have h4 := List.mem_of_find?_eq_some hf
      simp only [decide_eq_true_eq] at h3
      rw [huniq x h4 h3] at hf
      simp [lookB, hf]
theorem lookB_none {l : List Bd} {s : ByteArray} (hr : RisB l) (h : hasB l s = false) : lookB l s = none := by
  have h2 := (lookB_has l s hr).1
  rw [h] at h2
  cases h3 : lookB l s with
  | none => rfl
  | some t => rw [h3] at h2; cases h2
theorem Look_raw (l : List Bd) (s : ByteArray) (hr : RisB l) (hl : l.length ≤ 1000000) : AC Tryz.prog 85 [.dat false 5 (bdDs l), sv s] [] (fun r O => (hasB l s = true ∧ r = .tup [tmA false (lookT l s), bv true] ∨ hasB l s = false ∧ r = .tup [.agg [iv 0, sv ⟨#[]⟩, iv 0, .imm (.slice none 0 0)], bv false]) ∧ O = []) := by
  have hlen := qak l
  have hpl := posB_le l s
  refine qG Tryz.func85 rfl Tryz.ntmps85 (Nat.le_of_ble_eq_true rfl) fun c hL hQ hDD => (qd (qb (qz rfl rfl (by decide) (qaf 4 rfl q6 rfl) rfl (zN rfl rfl rfl (qc (qa (qd ?_))))))); refine qb ?_
  refine zM rfl rfl rfl (zM rfl rfl rfl (qC (avs := [_, _]) false rfl rfl rfl (by decide) en_bind_find rfl rfl (find_ok l s hr hl) rfl rfl (zM rfl rfl rfl (zA rfl (qY rfl rfl rfl) ?_))))
  refine zA rfl (qY rfl rfl rfl) (zN rfl rfl rfl (zN rfl rfl rfl (qc (qa (qd (qd (qb ?_))))))); refine zM rfl rfl rfl (zA rfl (qU rfl rfl) (qc (qa (qu rfl (fun c0 => ?_) (fun c0 => ?_)))))
  · try simp only [↓cqA, cqB] at c0
    refine qd (qb (zA rfl (qbx rfl q6 rfl qbT rfl rfl) (qO rfl rfl rfl qi rfl rfl rfl rfl rfl rfl rfl rfl rfl (zN rfl rfl rfl (qc (qa (qm ?_))))))); refine ql (?_)
    -- leaf 0T
    refine ret0 (noL hL) (.inl rfl) (qaU qi rfl rfl rfl (qf rfl (qh))) ?_ ?_
    · rfl
    exact ⟨.inr ⟨c0, rfl⟩, rfl⟩
  try simp only [↓cqA, cqB] at c0
  obtain ⟨b, hb, hn, hlk⟩ := (lookB_has l s hr).2 c0
  have hlt := (List.getElem?_eq_some_iff.1 hb).1
  refine qt (qa (qd (qb (zM rfl rfl rfl (zM rfl rfl rfl (zA rfl (qo rfl qp rfl rfl (by omega) (qaI hb)) (zA rfl (qZ rfl qan rfl) ?_))))))); refine zA rfl (qD rfl qi rfl rfl) ?_
  refine qO rfl rfl rfl qi rfl rfl rfl rfl rfl rfl rfl rfl rfl (zN rfl rfl rfl (qc (qa (qm ?_))))
  -- leaf 0F
  refine ret0 (noL hL) (.inl rfl) (qaU qi rfl rfl rfl (qf rfl (qh))) ?_ ?_
  · rfl
  refine ⟨.inl ⟨c0, ?_⟩, rfl⟩
  rw [lookT, hlk]; rfl
theorem Look_ok (l : List Bd) (s : ByteArray) (hr : RisB l) (hl : l.length ≤ 1000000) : PF 85 [.dat false 5 (bdDs l), sv s] (.tup [tmA false (lookT l s), bv (hasB l s)]) :=
  AC_leP (Look_raw l s hr hl) (fun r O' h => by
    obtain ⟨h | h, rfl⟩ := h
    · obtain ⟨h1, rfl⟩ := h; exact ⟨_, .refl, by rw [h1], rfl⟩
    · obtain ⟨h1, rfl⟩ := h
      refine ⟨_, .tup (.cons (zero_le false) (.cons .refl .nil)), ?_, rfl⟩
      rw [h1, lookT, lookB_none hr h1]; rfl)
structure BOk (l : List Bd) : Prop where
  ris : RisB l
  len : l.length ≤ 1000
  el : ∀ b ∈ l, b.wf ∧ mayT b.t = true
def gB (l : List Bd) (s : ByteArray) : Tm := (lookB l s).getD ⟨1, s, 0, []⟩
theorem lookB_mem {l : List Bd} {s : ByteArray} {t : Tm} (h : lookB l s = some t) : ∃ b ∈ l, b.name = s ∧ b.t = t := by
  simp only [lookB, Option.map_eq_some_iff] at h
  obtain ⟨b, h1, h2⟩ := h
  have h3 := List.find?_some h1
  simp only [decide_eq_true_eq] at h3
  exact ⟨b, List.mem_of_find?_eq_some h1, h3, h2⟩
theorem BOk.look {l : List Bd} (h : BOk l) {s : ByteArray} {t : Tm} (ht : lookB l s = some t) : t.wf ∧ mayT t = true := by
  obtain ⟨b, h1, _, rfl⟩ := lookB_mem ht
  exact ⟨(h.el b h1).1.2, (h.el b h1).2⟩
theorem Put1_ok (l : List Bd) (hl : BOk l) (s : ByteArray) : AC Tryz.prog 215 [sv s, .ptr 99 0] [(99, .box [.dat false 5 (bdDs l)])] (fun r O => r = .agg (lift true (tmD (gB l s))) ∧ O = [(99, .box [.dat false 5 (bdDs l)])]) := by
  have hln := hl.len
  have hls := (lookB_has l s hl.ris).1
  refine AC_leP (Post := fun r O => (r = .agg (lift true (tmD (gB l s))) ∨ hasB l s = false ∧ r = .agg [iv 1, sv s, iv 0, .imm (.slice none 0 0)]) ∧ O = [(99, .box [.dat false 5 (bdDs l)])]) ?_ (fun r O' h => by
    obtain ⟨rfl | ⟨h1, rfl⟩, rfl⟩ := h
    · exact ⟨_, .refl, rfl, rfl⟩
    · refine ⟨.agg (lift true (tmD ⟨1, s, 0, []⟩)), .agg (.cons .refl (.cons .refl (.cons .refl (.cons .nil .nil)))), ?_, rfl⟩
      rw [gB, lookB_none hl.ris h1]; rfl)
  refine qG Tryz.func215 rfl Tryz.ntmps215 (Nat.le_of_ble_eq_true rfl) fun c hL hQ hDD => (qd (qb (qz rfl rfl (by decide) (qaf 3 rfl q6 rfl) rfl (qc (qa (qd (qd ?_))))))); refine qb (zA rfl (qr rfl qap rfl rfl rfl rfl rfl) ?_)
  refine zM rfl rfl rfl (qC (avs := [_, _]) false rfl rfl rfl (by decide) en_bind_Look rfl rfl (Look_ok l s hl.ris (by omega)) rfl rfl (zM rfl rfl rfl (zA rfl (qY rfl rfl rfl) (zA rfl (qY rfl rfl rfl) ?_))))
  refine qz rfl rfl (by decide) (qaf 4 rfl q6 rfl) rfl (qO rfl rfl rfl qi rfl rfl rfl rfl rfl rfl rfl rfl rfl (zN rfl rfl rfl (qc (qa (qd (qb (zM rfl rfl rfl ?_))))))); refine qc (qa (qu rfl (fun c0 => ?_) (fun c0 => ?_)))
  · try simp only [↓cqA, cqB] at c0
    obtain ⟨t, ht⟩ : ∃ t, lookB l s = some t := by
      cases h : lookB l s with
      | none => rw [h, c0] at hls; cases hls
      | some t => exact ⟨t, rfl⟩
    obtain ⟨hw, hm⟩ := hl.look ht
    have hlt : lookT l s = t := by rw [lookT, ht]; rfl
    rw [hlt]
    have key := Own_ok 5 t (qa6 hm).1 hw
    rw [own_may 5 t 24 hm] at key
    refine qd (qb (zA rfl (qw rfl qi rfl rfl rfl rfl) (qC (avs := [_]) true rfl rfl rfl (by decide) en_term_Own rfl rfl (key) rfl rfl (qO rfl rfl rfl qi rfl rfl rfl rfl rfl rfl rfl rfl rfl (qc (qa (qm ?_))))))); refine ql (?_)
    change retQ _ _ _ _ _ _ _
    refine retO (O' := [(99, _)]) (.inl rfl) (qaU qi rfl rfl rfl qh) (SubO.cons rfl SubO.nil) ?_ ?_ (LO hL rfl) ?_
    · rfl
    · rfl
    refine ⟨.inl ?_, rfl⟩
    rw [gB, ht]; rfl
  try simp only [↓cqA, cqB] at c0
  refine qt (qa (qd (qb (zM rfl rfl rfl (zA rfl (qbx rfl q6 rfl qbT rfl rfl) (qO rfl rfl rfl qi rfl rfl rfl rfl rfl rfl rfl rfl rfl (qc ?_))))))); refine qa (qm ?_)
  change retQ _ _ _ _ _ _ _
  refine retO (O' := [(99, _)]) (.inl rfl) (qaU qi rfl rfl rfl qh) (SubO.cons rfl SubO.nil) ?_ ?_ (LO hL rfl) ?_
  · rfl
  · rfl
  exact ⟨.inr ⟨c0, rfl⟩, rfl⟩
end Go.Proofs.YtdecgkhdbfgldaaGreat

set_option linter.unusedVariables false
set_option linter.unusedSimpArgs false
set_option maxRecDepth 8000
namespace Go.Proofs.YtdecgkhdbfgldaaGreat
open Go
abbrev bdA (l : List Bd) : AV := .dat false 5 (bdDs l)
theorem TurnedP_ok (l : List Bd) (hl : BOk l) : ∀ (d : Nat) (t : Tm), dle d t → t.wf → AC Tryz.prog 144 [tmA false t, .fn 215 [.ptr 99 0]] [(99, .box [bdA l])] (fun r O => r = .agg (lift true (tmD (qc0 (gB l) d t))) ∧ O = [(99, .box [bdA l])])
  | 0, t, h, _ => h.elim
  | d + 1, t, h, ht => by
    have hlen := qaa t.args
    have hal := ht.2.2.2.1
    refine qG Tryz.func144 rfl Tryz.ntmps144 (Nat.le_of_ble_eq_true rfl) fun c hL hQ hDD => (qd (qb (qz rfl rfl (by decide) (qab 2 rfl rfl rfl) rfl (qz rfl rfl (by decide) (qaf 4 rfl q6 rfl) rfl (qc (qa (qd ?_))))))); refine qd (qb (zA rfl (qg rfl q9 rfl) (zA rfl (qr rfl qay rfl rfl rfl rfl rfl) ?_)))
    refine zA rfl (qn rfl rfl rfl rfl) (qc (qa (qu rfl (fun c0 => ?_) (fun c0 => ?_))))
    · try simp only [↓cqA, cqB] at c0
      refine qd ?_; refine qb ?_; refine zM rfl rfl rfl ?_; refine zA rfl (qg rfl qad rfl) ?_; refine zA rfl (qr rfl qT rfl rfl rfl rfl rfl) ?_; refine qaN (avs := [_]) false rfl rfl rfl (by decide) en_bind_Put_1 rfl rfl (Put1_ok l hl t.name) (rfl) (passO (.cons rfl trivial rfl .nil)) (by rintro r O' ⟨rfl, rfl⟩ l' hl'; exact .inl ((inD_dom (by rfl) l').trans hl')) (by rintro h; cases h) ?_
      rintro r O' ⟨rfl, rfl⟩
      refine qO rfl rfl rfl qi rfl rfl rfl rfl rfl rfl rfl rfl rfl (qc (qa (qm (ql (?_)))))
      change retQ _ _ _ _ _ _ _
      refine retO (O' := [(99, _)]) (.inl rfl) (qaU qi rfl rfl rfl qh) (SubO.cons rfl SubO.nil) ?_ ?_ (LO hL rfl) ?_
      · rfl
      · rfl
      exact ⟨by rw [qc0, if_pos c0]; rfl, rfl⟩
    try simp only [↓cqA, cqB] at c0
    refine qt (qa (qd (qb (zN rfl rfl rfl (qc (qa (qd ?_))))))); refine qd (qb (zA rfl (qg rfl qJ rfl) (zA rfl (qr rfl qF rfl rfl rfl rfl rfl) (zA rfl (qy rfl qv rfl) ?_))))
    refine zM rfl rfl rfl (qc (qa (qB ?_)))
    refine qV (t.args.length) (fun k => k ≤ t.args.length) (fun k => ⟨[(1, .fn 215 [.ptr 99 0]), (2, .ptr 2 0), (4, .ptr 4 0), (5, .row 5), (16, .dat false 4 (tmDs t.args)), (17, iv (tmDs t.args).length), (18, iv (k : Int))], [(99, .box [bdA l]), (2, .box (lift false (tmD t))), (4, .box ([Value.int .i64 0, Value.string ⟨#[]⟩, Value.int .i64 0, Value.slice none 0 0].map .imm)), (5, .rowd 35 4 true (tmDsL ((t.args.take k).map (qc0 (gB l) d))))]⟩) (by omega) ?_ (fun k hk hp => ?_)
    · exact Sub.trans (qaL (t := 5) (l := 5) 35 4 true rfl rfl) (qI (SubT.cons (zT rfl) (SubT.cons (zT rfl) (SubT.cons (zT rfl) (SubT.cons (zT rfl) (SubT.cons (zT rfl) (SubT.cons (zT rfl) (SubT.cons (zT rfl) (SubT.nil)))))))) (SubO.cons (qag rfl (by rfl)) (SubO.cons (qag rfl (by rfl)) (SubO.cons (qag rfl (by rfl)) (SubO.cons (qag rfl (by rfl)) (SubO.nil))))) rfl rfl (oneL hL rfl))
    have hl2 : (tmDsL ((t.args.take k).map (qc0 (gB l) d))).length ≤ t.args.length := by simp [tmDsL]; omega
    refine qd (qb (zA rfl (qn rfl rfl rfl rfl) (qc (qa (qd (qu rfl (fun c1 => ?_) (fun c1 => ?_)))))))
    · try simp only [↓cqA, cqB] at c1
      obtain ⟨u, hu⟩ := qK (l := t.args) (k := k) (by omega)
      have hum := List.mem_of_getElem? hu
      refine qt (qa (qd (qB (qd (qb (zA rfl (qo rfl qv rfl rfl (by omega) (qax hu)) (zA rfl (qD rfl qi rfl rfl) ?_)))))))
      refine qz rfl rfl (by decide) (qaf 7 rfl q6 rfl) rfl (qO rfl rfl rfl qi rfl rfl rfl rfl rfl rfl rfl rfl rfl (qc (qa (qb (zM rfl rfl rfl (zA rfl (qw rfl qi rfl rfl rfl rfl) ?_))))))
      refine zM rfl rfl rfl ?_; refine qaN (avs := [_, _]) false rfl rfl rfl (by decide) en_term_Turned rfl rfl (TurnedP_ok l hl d u (h u hum) (Tm.wfs_mem ht.2.2.2.2 hum)) (rfl) (passO (.cons rfl trivial rfl .nil)) (by rintro r O' ⟨rfl, rfl⟩ l' hl'; exact .inl ((inD_dom (by rfl) l').trans hl')) (by rintro h; cases h) ?_
      rintro r O' ⟨rfl, rfl⟩
      refine qz rfl rfl (by decide) (qS 26 rfl qv q6 rfl rfl (by decide) (by decide) (by decide) rfl rfl rfl) rfl (qbt rfl rfl (by decide) (qaA 27 ta_S_api_Term rfl rfl rfl rfl rfl rfl rfl rfl (oneL' hL rfl) (by omega) rfl) rfl ?_)
      refine zN rfl rfl rfl (qc (qP (qa (qb (zA rfl (qM rfl rfl rfl (by omega)) (zM rfl rfl rfl (qc ?_))))))); refine qa ?_; refine ⟨?_, ?_, ?_⟩
      · skip
        omega
      · skip
        omega
      exact Sub.trans (qaE 27 5 (oneL' hL rfl) (oneL' hL rfl)) (qI (SubT.cons (zT rfl) (SubT.cons (zT rfl) (SubT.cons (zT rfl) (SubT.cons (zT rfl) (SubT.cons (zT rfl) (SubT.cons (zT rfl) (SubT.cons (zT rfl) (SubT.nil)))))))) (SubO.cons (qag rfl (by rfl)) (SubO.cons (qag rfl (by rfl)) (SubO.cons (qag rfl (by rfl)) (SubO.cons (qag rfl (by rw [qah hu, List.map_append, tmDsL, tmDsL, List.map_append]; rfl)) (SubO.nil))))) rfl rfl (oneL hL rfl))
    try simp only [↓cqA, cqB] at c1
    refine qQ (qq (qq (q7 ?_))); refine qa (qd (qb (zM rfl rfl rfl (zA rfl (qg rfl qJ rfl) (qO rfl rfl rfl qF rfl rfl rfl rfl rfl rfl rfl rfl rfl (qc (qa ?_))))))); refine qd (qbb (qam (l := 5) rfl (by decide) (oneL' hL rfl) rfl rfl) (qb ?_))
    refine zA rfl (qw rfl qi rfl rfl rfl rfl) (qO rfl rfl rfl qi rfl rfl rfl rfl rfl rfl rfl rfl rfl (qc (qa (qm ?_))))
    change retQ _ _ _ _ _ _ _
    refine retO (O' := [(99, _)]) (.inl rfl) (qaU qi rfl rfl rfl qh) (SubO.cons rfl SubO.nil) ?_ ?_ (LO hL rfl) ?_
    · rfl
    · rfl
    exact ⟨by rw [qc0, if_neg c0, List.take_of_length_le (by omega)]; simp only [tmD, qb3]; rfl, rfl⟩
def putT (l : List Bd) (t : Tm) : Tm := qc0 (gB l) 5 t
theorem Put_ok (l : List Bd) (hl : BOk l) (t : Tm) (hd : dle 5 t) (ht : t.wf) : PF 160 [bdA l, tmA false t] (.agg (lift true (tmD (putT l t)))) := by
  have key := AC_rnE 99 2 (TurnedP_ok l hl 5 t hd ht)
  refine qG Tryz.func160 rfl Tryz.ntmps160 (Nat.le_of_ble_eq_true rfl) fun c hL hQ hDD => (qd (qb (qz rfl rfl (by decide) (qab 2 rfl rfl rfl) rfl (qz rfl rfl (by decide) (qab 3 rfl rfl rfl) rfl (qz rfl rfl (by decide) (qaf 4 rfl q6 rfl) rfl (qc (qa ?_))))))); refine qd (qb (zA rfl (qw rfl qi rfl rfl rfl rfl) ?_))
  refine zA rfl (stp_makeFunc (vs := [_]) rfl rfl) ?_; refine qaN (avs := [_, _]) false rfl rfl rfl (by decide) en_term_Turned rfl rfl (key) (rfl) (passO (.cons rfl trivial rfl .nil)) (by rintro r O' ⟨rfl, rfl⟩ l' hl'; exact .inl ((inD_dom (by rfl) l').trans hl')) (by rintro h; cases h) ?_
  rintro r O' ⟨rfl, rfl⟩
  refine qO rfl rfl rfl qi rfl rfl rfl rfl rfl rfl rfl rfl rfl (qc (qa (qm ?_)))
  -- leaf 
  refine ret0 (noL hL) (.inl rfl) (qaU qi rfl rfl rfl (qh)) ?_ ?_
  · rfl
  exact ⟨by rfl, rfl⟩
theorem turnT_wf (g : ByteArray → Tm) (hg : ∀ s, s.size ≤ 140737488351232 → (g s).wf) : ∀ (d : Nat) (t : Tm), t.wf → (qc0 g d t).wf
  | 0, t, h => h
  | d + 1, t, h => by
    simp only [qc0]
    split
    · exact hg _ h.2.1
    · refine ⟨h.1, h.2.1, h.2.2.1, by simpa using h.2.2.2.1, ?_⟩
      have key : ∀ ts : List Tm, Tm.wfs ts → Tm.wfs (ts.map (qc0 g d)) := fun ts => by
        induction ts with
        | nil => intro _; trivial
        | cons a ts ih =>
          intro h
          simp only [Tm.wfs, List.map_cons] at h ⊢
          exact ⟨(Tm.wf0_iff _).2 (turnT_wf g hg d a ((Tm.wf0_iff _).1 h.1)), ih h.2⟩
      exact key _ h.2.2.2.2
theorem varTm_wf {s : ByteArray} (h : s.size ≤ 140737488351232) : (Tm.mk 1 s 0 []).wf := ⟨⟨by simp, by simp⟩, h, ⟨by simp, by simp⟩, Nat.zero_le _, trivial⟩
theorem gB_wf {l : List Bd} (hl : BOk l) (s : ByteArray) (h : s.size ≤ 140737488351232) : (gB l s).wf := by
  unfold gB
  cases hh : lookB l s with
  | none => exact varTm_wf h
  | some t => exact (hl.look hh).1
theorem qcq {l : List Bd} (hl : BOk l) {t : Tm} (ht : t.wf) : (putT l t).wf := turnT_wf _ (gB_wf hl) _ _ ht
theorem zeroTm_wf : zeroTm.wf := ⟨⟨by simp [zeroTm], by simp [zeroTm]⟩, by simp [zeroTm]; exact Nat.zero_le _, ⟨by simp [zeroTm], by simp [zeroTm]⟩, Nat.zero_le _, trivial⟩
def intoT (l : List Bd) (t : Tm) : Tm := if mayT (putT l t) = true then putT l t else zeroTm
def intoE (l : List Bd) (t : Tm) : Int := if mayT (putT l t) = true then 0 else 2
theorem Into_ok (l : List Bd) (hl : BOk l) (t : Tm) (hd : dle 5 t) (ht : t.wf) : PF 98 [bdA l, tmA false t] (.tup [.agg (lift true (tmD (intoT l t))), iv (intoE l t)]) := by
  refine AC_leP (Post := fun r O => (mayT (putT l t) = true ∧ r = .tup [.agg (lift true (tmD (putT l t))), iv 0] ∨ mayT (putT l t) = false ∧ r = .tup [.agg [iv 0, sv ⟨#[]⟩, iv 0, .imm (.slice none 0 0)], iv 2]) ∧ O = []) ?_ (fun r O' h => by
    obtain ⟨⟨h1, rfl⟩ | ⟨h1, rfl⟩, rfl⟩ := h
    · exact ⟨_, .refl, by rw [intoT, intoE, if_pos h1, if_pos h1], rfl⟩
    · exact ⟨_, .tup (.cons (zero_le true) (.cons .refl .nil)), by rw [intoT, intoE, if_neg (by simp [h1]), if_neg (by simp [h1])], rfl⟩)
  have hw := qcq hl ht
  refine qG Tryz.func98 rfl Tryz.ntmps98 (Nat.le_of_ble_eq_true rfl) fun c hL hQ hDD => (qd (qb (qz rfl rfl (by decide) (qab 3 rfl rfl rfl) rfl (qz rfl rfl (by decide) (qaf 4 rfl q6 rfl) rfl (zN rfl rfl rfl (qc (qa ?_))))))); refine qd (qb (zM rfl rfl rfl (zA rfl (qw rfl qi rfl rfl rfl rfl) ?_)))
  refine qC (avs := [_, _]) false rfl rfl rfl (by decide) en_bind_Put rfl rfl (Put_ok l hl t hd ht) rfl rfl (qz rfl rfl (by decide) (qaf 6 rfl q6 rfl) rfl (qO rfl rfl rfl qi rfl rfl rfl rfl rfl rfl rfl rfl rfl (qc (qa (qd (qd (qb ?_))))))); refine zA rfl (qw rfl qi rfl rfl rfl rfl) ?_
  refine qC (avs := [_]) true rfl rfl rfl (by decide) qa2 rfl rfl (May_ok (putT l t) hw) rfl rfl (zA rfl (qU rfl rfl) (qc (qa (qu rfl (fun c0 => ?_) (fun c0 => ?_)))))
  · try simp only [↓cqA, cqB] at c0
    refine qd (qb (zA rfl (qbx rfl q6 rfl qbT rfl rfl) (qO rfl rfl rfl qi rfl rfl rfl rfl rfl rfl rfl rfl rfl (zN rfl rfl rfl (qc (qa (qm ?_))))))); refine ql (?_)
    -- leaf 0T
    refine ret0 (noL hL) (.inl rfl) (qaU qi rfl rfl rfl (qf rfl (qh))) ?_ ?_
    · rfl
    exact ⟨.inr ⟨c0, rfl⟩, rfl⟩
  try simp only [↓cqA, cqB] at c0
  refine qt (qa (qd (qb (zA rfl (qw rfl qi rfl rfl rfl rfl) (qO rfl rfl rfl qi rfl rfl rfl rfl rfl rfl rfl rfl rfl (zN rfl rfl rfl (qc ?_))))))); refine qa (qm ?_)
  -- leaf 0F
  refine ret0 (noL hL) (.inl rfl) (qaU qi rfl rfl rfl (qf rfl (qh))) ?_ ?_
  · rfl
  exact ⟨.inl ⟨c0, rfl⟩, rfl⟩
theorem into_may {l : List Bd} {t : Tm} (h : intoE l t = 0) : mayT (putT l t) = true ∧ intoT l t = putT l t := by
  unfold intoE at h
  split at h
  · rename_i hm; exact ⟨hm, by rw [intoT, if_pos hm]⟩
  · cases h
theorem intoT_wf {l : List Bd} (hl : BOk l) {t : Tm} (ht : t.wf) : (intoT l t).wf := by
  unfold intoT
  split
  · exact qcq hl ht
  · exact zeroTm_wf
theorem tmDs_snoc (l : List Tm) (t : Tm) : tmDs (l ++ [t]) = tmDs l ++ [tmD t] := by rw [qb3, qb3, List.map_append]; rfl
theorem terms_ok (l : List Bd) (hl : l.length ≤ 1000) : AC Tryz.prog 143 [bdA l] [] (fun r O => r = .row 2 ∧ O = [(2, .rowd 35 4 false (tmDs (l.map Bd.t)))]) := by
  have hlen := qak l
  refine qG Tryz.func143 rfl Tryz.ntmps143 (Nat.le_of_ble_eq_true rfl) fun c hL hQ hDD => (qd (qb (zN rfl rfl rfl (qc (qa (qd (qd ?_))))))); refine qb (zM rfl rfl rfl (zA rfl (qy rfl qp rfl) ?_))
  refine zM rfl rfl rfl (qc (qa (qB (qV (l.length) (fun k => k ≤ l.length) (fun k => ⟨[(2, .row 2), (5, bdA l), (6, iv (bdDs l).length), (7, iv (k : Int))], [(2, .rowd 35 4 false (tmDs ((l.take k).map Bd.t)))]⟩) (by omega) ?_ (fun k hk hp => ?_)))))
  · exact Sub.trans (qaL (t := 2) (l := 2) 35 4 false rfl rfl) (qI (SubT.cons (zT rfl) (SubT.cons (zT rfl) (SubT.cons (zT rfl) (SubT.cons (zT rfl) (SubT.nil))))) (SubO.cons (qag rfl (by rfl)) (SubO.nil)) rfl rfl (noL' (noL hL) _))
  have hl2 : (tmDs ((l.take k).map Bd.t)).length ≤ l.length := by rw [qaa, List.length_map, List.length_take]; omega
  refine qd (qb (zA rfl (qn rfl rfl rfl rfl) (qc (qa (qd (qu rfl (fun c0 => ?_) (fun c0 => ?_)))))))
  · try simp only [↓cqA, cqB] at c0
    obtain ⟨u, hu⟩ := qK (l := l) (k := k) (by omega)
    refine qt (qa (qd (qB (qd (qb (zA rfl (qo rfl qp rfl rfl (by omega) (qaI hu)) (zA rfl (qD rfl qav rfl rfl) ?_)))))))
    refine qz rfl rfl (by decide) (qaf 4 rfl qaD rfl) rfl (qO rfl rfl rfl qav rfl rfl rfl rfl rfl rfl rfl rfl rfl (qc (qa (qb (zM rfl rfl rfl (zA rfl (qg rfl qan rfl) (zA rfl (qr rfl qi rfl rfl rfl rfl rfl) ?_)))))))
    refine qz rfl rfl (by decide) (qS 14 rfl qv q6 rfl rfl (by decide) (by decide) (by decide) rfl rfl rfl) rfl (qbt rfl rfl (by decide) (qaA 15 ta_S_api_Term rfl rfl rfl rfl rfl rfl rfl rfl (noL hL _) (by omega) rfl) rfl ?_)
    refine zN rfl rfl rfl (qc (qP (qa (qb (zA rfl (qM rfl rfl rfl (by omega)) (zM rfl rfl rfl (qc ?_))))))); refine qa ?_; refine ⟨?_, ?_, ?_⟩
    · skip
      omega
    · skip
      omega
    exact Sub.trans (qaE 15 2 (noL hL _) (noL hL _)) (qI (SubT.cons (zT rfl) (SubT.cons (zT rfl) (SubT.cons (zT rfl) (SubT.cons (zT rfl) (SubT.nil))))) (SubO.cons (qag rfl (by rw [qah hu, List.map_append, List.map_cons, List.map_nil, tmDs_snoc]; rfl)) (SubO.nil)) rfl rfl (noL' (noL hL) _))
  try simp only [↓cqA, cqB] at c0
  refine qQ (qq (qq (q7 ?_))); refine qa (qd (qb (zM rfl rfl rfl (zN rfl rfl rfl (qc (qa (qm ?_)))))))
  -- leaf 0F
  change retQ _ _ _ _ _ _ _
  refine retO (O' := [(2, _)]) (.inl rfl) (qf rfl qh) (SubO.cons rfl SubO.nil) ?_ ?_ (noL' (noL hL) _) ?_
  · rfl
  · rfl
  exact ⟨rfl, by rw [List.take_of_length_le (by omega)]⟩
end Go.Proofs.YtdecgkhdbfgldaaGreat

set_option linter.unusedVariables false
set_option linter.unusedSimpArgs false
set_option maxRecDepth 8000
namespace Go.Proofs.YtdecgkhdbfgldaaGreat
open Go
theorem IndexFunc_st_ok (B : Bool) (ts : List ByteArray) (es : List (List D)) (hes : es = ts.map (fun s => [D.imm (.string s)])) (hlen : ts.length ≤ 140737488351232) (g : FuncId) (caps : List AV) (hen : qX Tryz.prog g) (Os : Nat → List (Nat × Ob)) (p : Nat → Bool) (hO : Thread B caps Os)
    (hstep : ∀ k u, ts[k]? = some u → (∀ j, j < k → p j = false) → AC Tryz.prog g (sv u :: caps) (Os k) (fun r O => r = bv (p k) ∧ O = Os (k + 1))) :
    AC Tryz.prog 152 [.dat false 1 es, .fn g caps] (Os 0) (fun r O => ∃ m n i, m ≤ ts.length ∧ (∀ j, j < m → p j = false) ∧ ((m < ts.length ∧ p m = true ∧ i = (m : Int) ∧ n = m + 1) ∨ (m = ts.length ∧ i = -1 ∧ n = m)) ∧ r = iv i ∧ O = Os n) := by
  have hl : es.length = ts.length := by rw [hes, List.length_map]
  refine qG Tryz.func152 rfl Tryz.ntmps152 (Nat.le_of_ble_eq_true rfl) fun c hL hQ hDD => (qd (qb (zN rfl rfl rfl (qc (qa (qd (qd ?_))))))); refine qb (zM rfl rfl rfl (zA rfl (qy rfl qae rfl) ?_))
  refine zM rfl rfl rfl (qc (qa (qB (qV (ts.length) (fun k => k ≤ ts.length ∧ ∀ j, j < k → p j = false) (fun k => ⟨[(0, .dat false 1 es), (1, .fn g caps), (7, iv es.length), (8, iv (k : Int))], Os k⟩) (⟨by omega, fun j hj => absurd hj (by omega)⟩) ?_ (fun k hk hp => ?_)))))
  · exact qI (SubT.cons (zT rfl) (SubT.cons (zT rfl) (SubT.cons (zT rfl) (SubT.cons (zT rfl) (SubT.nil))))) (fun _ _ h => h) (by simp [allT, AV.allL, hO.all]) (hO.self _) (fun l hl => by rw [hO.dom]; exact (hL l).1 hl)
  refine qd (qb (zA rfl (qn rfl rfl rfl rfl) (qc (qa (qd (qu rfl (fun c0 => ?_) (fun c0 => ?_)))))))
  · try simp only [↓cqA, cqB] at c0
    obtain ⟨u, hu⟩ := qK (l := ts) (k := k) (by omega)
    refine qt (qa (qd (qB (qd (qb (zM rfl rfl rfl (zN rfl rfl rfl ?_))))))); refine qc (qa (qd (qb (zM rfl rfl rfl (zM rfl rfl rfl (zM rfl rfl rfl ?_))))))
    refine zA rfl (qo rfl qae rfl rfl (by omega) (by rw [hes, List.getElem?_map]; exact congrArg (Option.map (fun s => [D.imm (.string s)])) hu)) ?_; refine zA rfl (qR rfl qT rfl) ?_; refine qaN (avs := [_]) B rfl rfl rfl (by decide) hen rfl rfl (hstep k u hu hp.2) (by rw [List.cons_append, List.nil_append]; simp only [AV.cvs, hO.cvs]; rfl) (hO.pass k) (by rintro r O' ⟨_, rfl⟩ l hl; left; rw [hO.dom] at hl ⊢; exact hl) (by rintro hB r O' ⟨rfl, rfl⟩; exact ⟨rfl, hO.q hB _⟩) ?_
    rintro r O' ⟨rfl, rfl⟩
    refine qc (qa (qu rfl (fun c1 => ?_) (fun c1 => ?_)))
    · try simp only [↓cqA, cqB] at c1
      refine qd (qb (zM rfl rfl rfl (zN rfl rfl rfl (qc (qa (qm (qL (ql (ql (qL (ql (?_))))))))))))
      change retQ _ _ _ _ _ _ _
      refine retO (.inl rfl) (qf rfl qh) SubO.left rfl (hO.self _) (fun l hl => by rw [hO.dom]; exact (hL l).1 hl) ?_
      exact ⟨k, _, _, by omega, hp.2, .inl ⟨by omega, c1, rfl, rfl⟩, rfl, rfl⟩
    try simp only [↓cqA, cqB] at c1
    refine qt (qP (qa (qb (zA rfl (qM rfl rfl rfl (by omega)) (zM rfl rfl rfl (qc (qa ?_))))))); refine ⟨?_, ?_, ?_⟩
    · skip
      omega
    · skip
      refine ⟨by omega, fun j hj => ?_⟩
      by_cases hjk : j < k
      · exact hp.2 j hjk
      · rw [show j = k by omega]; exact c1
    exact qI (SubT.cons (zT rfl) (SubT.cons (zT rfl) (SubT.cons (zT rfl) (SubT.cons (zT rfl) (SubT.nil))))) (SubO.left) (by simp [allT, AV.allL, hO.all]) (hO.self _) (fun l hl => by rw [hO.dom]; exact (hL l).1 hl)
  try simp only [↓cqA, cqB] at c0
  refine qQ (qq (qq (q7 ?_))); refine qa (qd (qb (zN rfl rfl rfl (qc (qa (qm ?_))))))
  change retQ _ _ _ _ _ _ _
  refine retO (.inl rfl) (qf rfl qh) (fun _ _ h => h) rfl (hO.self _) (fun l hl => by rw [hO.dom]; exact (hL l).1 hl) ?_
  exact ⟨k, _, _, by omega, hp.2, .inr ⟨by omega, rfl, rfl⟩, rfl, rfl⟩
theorem ContainsFunc_st_ok (B : Bool) (ts : List ByteArray) (es : List (List D)) (hes : es = ts.map (fun s => [D.imm (.string s)])) (hlen : ts.length ≤ 140737488351232) (g : FuncId) (caps : List AV) (hen : qX Tryz.prog g) (Os : Nat → List (Nat × Ob)) (p : Nat → Bool) (hO : Thread B caps Os)
    (hstep : ∀ k u, ts[k]? = some u → (∀ j, j < k → p j = false) → AC Tryz.prog g (sv u :: caps) (Os k) (fun r O => r = bv (p k) ∧ O = Os (k + 1))) :
    AC Tryz.prog 91 [.dat false 1 es, .fn g caps] (Os 0) (fun r O => ∃ m n b, m ≤ ts.length ∧ (∀ j, j < m → p j = false) ∧ ((m < ts.length ∧ p m = true ∧ b = true ∧ n = m + 1) ∨ (m = ts.length ∧ b = false ∧ n = m)) ∧ r = bv b ∧ O = Os n) := by
  refine qG Tryz.func91 rfl Tryz.ntmps91 (Nat.le_of_ble_eq_true rfl) fun c hL hQ hDD => (qd (qb (zN rfl rfl rfl (qc (qa (qd (qb ?_))))))); refine zM rfl rfl rfl (zM rfl rfl rfl ?_)
  refine qaN (avs := [_, _]) B rfl rfl rfl (by decide) qdb rfl rfl (IndexFunc_st_ok B ts es hes hlen g caps hen Os p hO hstep) (by simp only [List.append_nil, AV.cvs, AV.cv, hO.cvs]; rfl) (hO.pass 0) (by rintro r O' ⟨m, n, i, _, _, _, _, rfl⟩ l hl; left; rw [hO.dom] at hl ⊢; exact hl) (by rintro hB r O' ⟨m, n, i, _, _, _, rfl, rfl⟩; exact ⟨rfl, hO.q hB _⟩) ?_
  rintro r O' ⟨m, n, i, hm, hf, hc, rfl, rfl⟩
  refine zA rfl (qn rfl rfl rfl rfl) (zN rfl rfl rfl (qc (qa (qm ?_))))
  -- leaf 
  change retQ _ _ _ _ _ _ _
  refine retO (.inl rfl) (qf rfl qh) SubO.left rfl (hO.self _) (fun l hl => by rw [hO.dom]; exact (hL l).1 hl) ?_; refine ⟨m, n, _, hm, hf, ?_, rfl, rfl⟩
  rcases hc with ⟨h1, h2, rfl, h3⟩ | ⟨h1, rfl, h3⟩
  · exact .inl ⟨h1, h2, by simp, h3⟩
  · exact .inr ⟨h1, by simp, h3⟩
def qc1 (l : List Bd) (i : Nat) : Bool := match l[i]? with
  | some b => varB b.name && mayT b.t && (decide (i = 0) || match l[i - 1]? with | some a => ltS a.name b.name | none => true)
  | none => true
def mayB (l : List Bd) : Bool := decide (l.length ≤ 16) && (List.range l.length).all (qc1 l) && !(noteL 5 (l.map Bd.t)).any (hasB l)
theorem steps_bok {l : List Bd} (h : ∀ j, j < l.length → qc1 l j = true) (hl : l.length ≤ 16) (hw : ∀ b ∈ l, b.wf) : BOk l := by
  have adj : ∀ (i : Nat) (a b : Bd), l[i]? = some a → l[i + 1]? = some b → ltS a.name b.name = true := fun i a b ha hb => by
    have := h (i + 1) (List.getElem?_eq_some_iff.1 hb).1
    simp only [qc1, hb, Nat.add_sub_cancel, ha, Bool.and_eq_true] at this
    simpa using this.2
  have far : ∀ (n i : Nat) (a b : Bd), l[i]? = some a → l[i + 1 + n]? = some b → ltS a.name b.name = true := fun n => by
    induction n with
    | zero => intro i a b ha hb; exact adj i a b ha (by simpa using hb)
    | succ n ih =>
      intro i a b ha hb
      have hlt := (List.getElem?_eq_some_iff.1 hb).1
      obtain ⟨c, hc⟩ := qK (l := l) (k := i + 1 + n) (by omega)
      exact ltS_trans (ih i a c ha hc) (adj (i + 1 + n) c b hc (by rw [show i + 1 + n + 1 = i + 1 + (n + 1) by omega]; exact hb))
  refine ⟨List.pairwise_iff_getElem.2 fun i j hi hj hij => ?_, by omega, fun b hb => ⟨hw b hb, ?_⟩⟩
  · exact far (j - i - 1) i _ _ (List.getElem?_eq_getElem hi) (by rw [show i + 1 + (j - i - 1) = j by omega]; exact List.getElem?_eq_getElem hj)
  · obtain ⟨i, hi⟩ := List.getElem?_of_mem hb
    have := h i (List.getElem?_eq_some_iff.1 hi).1
    simp only [qc1, hi, Bool.and_eq_true] at this
    exact this.1.2
theorem mayB_bok {l : List Bd} (h : mayB l = true) (hw : ∀ b ∈ l, b.wf) : BOk l := by
  simp only [mayB, Bool.and_eq_true, decide_eq_true_eq, List.all_eq_true, List.mem_range] at h
  exact steps_bok (fun j hj => h.1.2 j hj) h.1.1 hw
theorem noteL_sum {ts : List Tm} (h : ∀ t ∈ ts, mayT t = true) : (ts.map (nodes 5)).sum ≤ 25 * ts.length := by
  induction ts with
  | nil => simp
  | cons a ts ih =>
    have h1 := (qa6 (h a (by simp))).2
    have h2 := ih (fun t ht => h t (by simp [ht]))
    simp only [List.map_cons, List.sum_cons, List.length_cons]; omega
theorem wfs_of : ∀ {ts : List Tm}, (∀ t ∈ ts, t.wf) → Tm.wfs ts
  | [], _ => trivial
  | t :: ts, h => ⟨(Tm.wf0_iff t).2 (h t (by simp)), wfs_of (fun u hu => h u (by simp [hu]))⟩
theorem bindMay1_ok (l : List Bd) (hl : BOk l) (s : ByteArray) : AC Tryz.prog 142 [sv s, .ptr 1 0] [(1, .box [bdA l])] (fun r O => r = bv (hasB l s) ∧ O = [(1, .box [bdA l])]) := by
  have hln := hl.len
  refine qG Tryz.func142 rfl Tryz.ntmps142 (Nat.le_of_ble_eq_true rfl) fun c hL hQ hDD => (qd (qb (zN rfl rfl rfl (qc (qa (qd (qb ?_))))))); refine zA rfl (qr rfl qap rfl rfl rfl rfl rfl) ?_
  refine zM rfl rfl rfl (qC (avs := [_, _]) false rfl rfl rfl (by decide) en_bind_find rfl rfl (find_ok l s hl.ris (by omega)) rfl rfl (zM rfl rfl rfl (zA rfl (qY rfl rfl rfl) (zA rfl (qY rfl rfl rfl) ?_))))
  refine zN rfl rfl rfl (zN rfl rfl rfl (qc (qa (qd (qb (zM rfl rfl rfl (zN rfl rfl rfl ?_))))))); refine qc (qa (qm ?_))
  -- leaf 
  change retQ _ _ _ _ _ _ _
  refine retO (O' := [(1, _)]) (.inl rfl) (qf rfl qh) (SubO.cons rfl SubO.nil) ?_ ?_ (LO hL rfl) ?_
  · rfl
  · rfl
  exact ⟨rfl, rfl⟩
theorem any_found {L N : List ByteArray} {p : ByteArray → Bool} (hm : ∀ s, s ∈ L ↔ s ∈ N) {m n : Nat} {b : Bool} (hf : ∀ j, j < m → (match L[j]? with | some s => p s | none => false) = false) (hc : (m < L.length ∧ (match L[m]? with | some s => p s | none => false) = true ∧ b = true ∧ n = m + 1) ∨ (m = L.length ∧ b = false ∧ n = m)) : b = N.any p := by
  rw [Bool.eq_iff_iff, List.any_eq_true]
  rcases hc with ⟨h1, h2, rfl, _⟩ | ⟨h1, rfl, _⟩
  · obtain ⟨s, hs⟩ := qK h1
    rw [hs] at h2
    exact ⟨fun _ => ⟨s, (hm s).1 (List.mem_of_getElem? hs), h2⟩, fun _ => rfl⟩
  · constructor
    · intro h; cases h
    · rintro ⟨s, hs, hp⟩
      obtain ⟨j, hj⟩ := List.getElem?_of_mem ((hm s).2 hs)
      have := hf j (by rw [h1]; exact (List.getElem?_eq_some_iff.1 hj).1)
      rw [hj] at this
      simp only at this
      rw [this] at hp; cases hp
theorem rising_len {L N : List ByteArray} (hr : Rising L) (hm : ∀ s, s ∈ L ↔ s ∈ N) : L.length ≤ N.length := by
  have hnd : L.Nodup := by
    refine hr.imp fun {a b} h e => ?_
    subst e; exact List.lt_irrefl _ h
  exact hnd.length_le_of_subset (fun s hs => (hm s).1 hs)
theorem ltS_no {a b : ByteArray} (h : (Op.bytesLess a.toList b.toList || a.toList == b.toList) = true) : ltS b a = false := by
  cases hc : ltS b a with
  | false => rfl
  | true =>
    simp only [Bool.or_eq_true, str_beq_t] at h
    rcases h with h | h
    · have := ltS_trans hc (show ltS a b = true from h); rw [ltS_irrefl] at this; cases this
    · rw [h, ltS_irrefl] at hc; cases hc
theorem ltS_yes {a b : ByteArray} (h : (Op.bytesLess a.toList b.toList || a.toList == b.toList) = false) : ltS b a = true := by
  simp only [Bool.or_eq_false_iff, str_beq_f] at h
  rcases ltS_tri a b with h1 | h1 | h1
  · rw [show ltS a b = false from h.1] at h1; cases h1
  · exact absurd h1 h.2
  · exact h1
theorem qbQ {l : List Bd} {k : Nat} {u : Bd} (h : l[k]? = some u) : qc1 l k = (varB u.name && mayT u.t && (decide (k = 0) || match l[k - 1]? with | some a => ltS a.name u.name | none => true)) := by
  rw [qc1, h]
theorem bindMay_ok (l : List Bd) (hw : ∀ b ∈ l, b.wf) : PF 84 [bdA l] (bv (mayB l)) := by
  have hlen := qak l
  refine qG Tryz.func84 rfl Tryz.ntmps84 (Nat.le_of_ble_eq_true rfl) fun c hL hQ hDD => (qd (qb (qz rfl rfl (by decide) (qab 1 rfl rfl rfl) rfl (zN rfl rfl rfl (qc (qa (qd ?_))))))); refine qd (qb (zA rfl (qr rfl qap rfl rfl rfl rfl rfl) (zA rfl (qy rfl qp rfl) ?_)))
  refine zA rfl (qn rfl rfl rfl rfl) (qc (qa (qu rfl (fun c0 => ?_) (fun c0 => ?_))))
  · try simp only [↓cqA, cqB] at c0
    refine qd (qb (zN rfl rfl rfl (qc (qa (qm (ql (?_)))))))
    -- leaf 0T
    refine ret0 (noL hL) (.inl rfl) (qf rfl (qh)) ?_ ?_
    · rfl
    refine ⟨qW ?_, rfl⟩
    symm
    rw [mayB, decide_eq_false (by omega)]; rfl
  try simp only [↓cqA, cqB] at c0
  refine qt (qa (qd (qd (qb (zA rfl (qr rfl qap rfl rfl rfl rfl rfl) (zA rfl (qy rfl qp rfl) ?_))))))
  refine zM rfl rfl rfl (qc (qa (qB (qV (l.length) (fun k => k ≤ l.length ∧ ∀ j, j < k → qc1 l j = true) (fun k => ⟨[(1, .ptr 1 0), (9, bdA l), (10, iv (bdDs l).length), (11, iv (k : Int))], [(1, .box [bdA l])]⟩) (⟨by omega, fun j hj => absurd hj (by omega)⟩) ?_ (fun k hk hp => ?_)))))
  · exact qI (SubT.cons (zT rfl) (SubT.cons (zT rfl) (SubT.cons (zT rfl) (SubT.cons (zT rfl) (SubT.nil))))) (SubO.cons (qag rfl (by rfl)) (SubO.nil)) rfl rfl (noL' (noL hL) _)
  refine qd (qb (zA rfl (qn rfl rfl rfl rfl) (qc (qa (qd (qu rfl (fun c1 => ?_) (fun c1 => ?_)))))))
  · try simp only [↓cqA, cqB] at c1
    obtain ⟨u, hu⟩ := qK (l := l) (k := k) (by omega)
    have huw := hw u (List.mem_of_getElem? hu)
    refine qt (qa (qd (qB (qd (qb (zM rfl rfl rfl (zA rfl (qo rfl qp rfl rfl (by omega) (qaI hu)) ?_))))))); refine zA rfl (qD rfl qav rfl rfl) ?_
    refine qz rfl rfl (by decide) (qaf 4 rfl qaD rfl) rfl (zN rfl rfl rfl (qO rfl rfl rfl qav rfl rfl rfl rfl rfl rfl rfl rfl rfl (qc (qa (qd ?_)))))
    rcases Bool.eq_false_or_eq_true (varB u.name) with l18 | l18
    · have m18 := l18
      try simp only [↓cqA, cqB] at m18
      rcases Bool.eq_false_or_eq_true (mayT u.t) with l23 | l23
      · have m23 := l23
        try simp only [↓cqA, cqB] at m23
        rcases Bool.eq_false_or_eq_true (decide ((k : Int) > 0)) with l28 | l28
        · have m28 := l28
          try simp only [↓cqA, cqB] at m28
          obtain ⟨a, ha⟩ := qK (l := l) (k := k - 1) (by omega)
          have ha2 : l[((k : Int) - 1).toNat]? = some a := by rw [show ((k : Int) - 1).toNat = k - 1 by omega]; exact ha
          refine q8 22 qbd rfl rfl rfl rfl ?_; refine qe rfl (by decide) (.run rfl (qg rfl qai rfl)) ?_; refine qe rfl (by decide) (.run rfl (qr rfl qT rfl rfl rfl rfl rfl)) ?_; refine qe rfl (by decide) (.run rfl (qN (avs := [_]) true rfl en_term_Var rfl rfl (by have hh := Var_ok u.name; rw [l18] at hh; exact hh) (fun _ => rfl) rfl)) ?_; refine qe rfl (by decide) (.run rfl (qU rfl rfl)) ?_; refine qe rfl (by decide) (.run rfl (qk (.inl rfl) rfl)) ?_
          refine qe rfl (by decide) (.want rfl rfl rfl (by decide) (qg rfl qan rfl)) ?_; refine qe rfl (by decide) (.want rfl rfl rfl (by decide) (qr rfl qi rfl rfl rfl rfl rfl)) ?_; refine qe rfl (by decide) (.want rfl rfl rfl (by decide) (qN (avs := [_]) true rfl qa2 rfl rfl (by have hh := May_ok u.t huw.2; rw [l23] at hh; exact hh) (fun _ => rfl) rfl)) ?_; refine qe rfl (by decide) (.want rfl rfl rfl (by decide) (qU rfl rfl)) ?_; refine qe rfl (by decide) (.run rfl (qj rfl rfl rfl)) ?_
          refine qe rfl (by decide) (.run rfl (qk (.inl rfl) rfl)) (qe rfl (by decide) (.want rfl rfl rfl (by decide) (qk (.inl rfl) rfl)) (qe rfl (by decide) (.want rfl rfl rfl (by decide) (qn (r := .bool true) rfl rfl rfl (congrArg (fun b => some (Value.bool b)) l28))) (qe rfl (by decide) (.want rfl rfl rfl (by decide) (qk (.inl rfl) rfl)) (qe rfl (by decide) (.want rfl rfl rfl (by decide) (qg rfl qai rfl)) ?_))))
          refine qe rfl (by decide) (.want rfl rfl rfl (by decide) (qr rfl qT rfl rfl rfl rfl rfl)) (qe rfl (by decide) (.want rfl rfl rfl (by decide) (qr rfl qap rfl rfl rfl rfl rfl)) (qe rfl (by decide) (.want rfl rfl rfl (by decide) (qk (.inl rfl) rfl)) (qe rfl (by decide) (.want rfl rfl rfl (by decide) (stp_sub rfl rfl rfl (by omega))) (qe rfl (by decide) (.want rfl rfl rfl (by decide) (qo rfl qp rfl rfl (by omega) (qaI ha2))) ?_))))
          refine qe rfl (by decide) (.want rfl rfl rfl (by decide) (qZ rfl qai rfl)) (qe rfl (by decide) (.want rfl rfl rfl (by decide) (qR rfl qT rfl)) (qau ⟨rfl, rfl, ?_⟩)); refine zG rfl rfl rfl rfl (qbn rfl rfl rfl rfl) (zG rfl rfl rfl rfl (qj rfl rfl rfl) (zA rfl (qj rfl rfl rfl) (qc (qa (qu rfl (fun c2 => ?_) (fun c2 => ?_))))))
          · try simp only [↓cqA, cqB] at c2
            refine qd (qb (zN rfl rfl rfl (qc (qa (qm (qL (ql (ql (qL (ql (?_)))))))))))
            -- leaf 0F1Tl18Tl23Tl28T2T
            refine ret0 (noL hL) (.inl rfl) (qf rfl (qh)) ?_ ?_
            · rfl
            refine ⟨qW ?_, rfl⟩
            symm
            rw [mayB]
            have hst : qc1 l k = false := by
              rw [qbQ hu]
              first | (rw [m18]; simp; done) | (rw [m23]; simp; done) | (rw [ha]; simp [ltS_no c2]; omega)
            have : (List.range l.length).all (qc1 l) = false := List.all_eq_false.2 ⟨k, by simp; omega, by simp [hst]⟩
            rw [this]; simp
          try simp only [↓cqA, cqB] at c2
          refine qt (qP (qa (qb (zA rfl (qM rfl rfl rfl (by omega)) (zM rfl rfl rfl (qc (qa ?_))))))); refine ⟨?_, ?_, ?_⟩
          · skip
            omega
          · skip
            refine ⟨by omega, fun j hj => ?_⟩
            by_cases hjk : j < k
            · exact hp.2 j hjk
            · rw [show j = k by omega, qbQ hu, m18, m23]
              first | (rw [ha]; simp [ltS_yes c2]; done) | (simp; left; omega) | (simp; omega)
          exact qI (SubT.cons (zT rfl) (SubT.cons (zT rfl) (SubT.cons (zT rfl) (SubT.cons (zT rfl) (SubT.nil))))) (SubO.cons (qag rfl (by rfl)) (SubO.nil)) rfl rfl (noL' (noL hL) _)
        have m28 := l28
        try simp only [↓cqA, cqB] at m28
        refine q8 22 qbd rfl rfl rfl rfl ?_; refine qe rfl (by decide) (.run rfl (qg rfl qai rfl)) ?_; refine qe rfl (by decide) (.run rfl (qr rfl qT rfl rfl rfl rfl rfl)) ?_; refine qe rfl (by decide) (.run rfl (qN (avs := [_]) true rfl en_term_Var rfl rfl (by have hh := Var_ok u.name; rw [l18] at hh; exact hh) (fun _ => rfl) rfl)) ?_; refine qe rfl (by decide) (.run rfl (qU rfl rfl)) ?_; refine qe rfl (by decide) (.run rfl (qk (.inl rfl) rfl)) ?_
        refine qe rfl (by decide) (.want rfl rfl rfl (by decide) (qg rfl qan rfl)) ?_; refine qe rfl (by decide) (.want rfl rfl rfl (by decide) (qr rfl qi rfl rfl rfl rfl rfl)) ?_; refine qe rfl (by decide) (.want rfl rfl rfl (by decide) (qN (avs := [_]) true rfl qa2 rfl rfl (by have hh := May_ok u.t huw.2; rw [l23] at hh; exact hh) (fun _ => rfl) rfl)) ?_; refine qe rfl (by decide) (.want rfl rfl rfl (by decide) (qU rfl rfl)) ?_; refine qe rfl (by decide) (.run rfl (qj rfl rfl rfl)) ?_
        refine qe rfl (by decide) (.run rfl (qk (.inl rfl) rfl)) (qe rfl (by decide) (.want rfl rfl rfl (by decide) (qk (.inl rfl) rfl)) (qe rfl (by decide) (.want rfl rfl rfl (by decide) (qn (r := .bool false) rfl rfl rfl (congrArg (fun b => some (Value.bool b)) l28))) ?_))
        refine qe rfl (by decide) (.want rfl rfl rfl (by decide) (qk (.inl rfl) rfl)) (qe rfl (by decide) (.skip rfl rfl rfl (by decide) (by decide)) (qe rfl (by decide) (.skip rfl rfl rfl (by decide) (by decide)) (qe rfl (by decide) (.skip rfl rfl rfl (by decide) (by decide)) ?_)))
        refine qe rfl (by decide) (.skip rfl rfl rfl (by decide) (by decide)) (qe rfl (by decide) (.skip rfl rfl rfl (by decide) (by decide)) (qe rfl (by decide) (.skip rfl rfl rfl (by decide) (by decide)) (qe rfl (by decide) (.skip rfl rfl rfl (by decide) (by decide)) ?_)))
        refine qe rfl (by decide) (.skip rfl rfl rfl (by decide) (by decide)) (qau ⟨rfl, rfl, ?_⟩); refine zS rfl rfl rfl rfl (zG rfl rfl rfl rfl (qj rfl rfl rfl) (zA rfl (qj rfl rfl rfl) (qc (qa (qas rfl ?_)))))
        refine qt (qP (qa (qb (zA rfl (qM rfl rfl rfl (by omega)) (zM rfl rfl rfl (qc (qa ?_))))))); refine ⟨?_, ?_, ?_⟩
        · skip
          omega
        · skip
          refine ⟨by omega, fun j hj => ?_⟩
          by_cases hjk : j < k
          · exact hp.2 j hjk
          · rw [show j = k by omega, qbQ hu, m18, m23]
            first | (rw [ha]; simp [ltS_yes c2]; done) | (simp; left; omega) | (simp; omega)
        exact qI (SubT.cons (zT rfl) (SubT.cons (zT rfl) (SubT.cons (zT rfl) (SubT.cons (zT rfl) (SubT.nil))))) (SubO.cons (qag rfl (by rfl)) (SubO.nil)) rfl rfl (noL' (noL hL) _)
      have m23 := l23
      try simp only [↓cqA, cqB] at m23
      refine q8 22 qbd rfl rfl rfl rfl ?_; refine qe rfl (by decide) (.run rfl (qg rfl qai rfl)) ?_; refine qe rfl (by decide) (.run rfl (qr rfl qT rfl rfl rfl rfl rfl)) ?_; refine qe rfl (by decide) (.run rfl (qN (avs := [_]) true rfl en_term_Var rfl rfl (by have hh := Var_ok u.name; rw [l18] at hh; exact hh) (fun _ => rfl) rfl)) ?_; refine qe rfl (by decide) (.run rfl (qU rfl rfl)) ?_; refine qe rfl (by decide) (.run rfl (qk (.inl rfl) rfl)) ?_
      refine qe rfl (by decide) (.want rfl rfl rfl (by decide) (qg rfl qan rfl)) ?_; refine qe rfl (by decide) (.want rfl rfl rfl (by decide) (qr rfl qi rfl rfl rfl rfl rfl)) ?_; refine qe rfl (by decide) (.want rfl rfl rfl (by decide) (qN (avs := [_]) true rfl qa2 rfl rfl (by have hh := May_ok u.t huw.2; rw [l23] at hh; exact hh) (fun _ => rfl) rfl)) ?_; refine qe rfl (by decide) (.want rfl rfl rfl (by decide) (qU rfl rfl)) ?_; refine qe rfl (by decide) (.run rfl (qj rfl rfl rfl)) ?_
      refine qe rfl (by decide) (.run rfl (qk (.inl rfl) rfl)) (qe rfl (by decide) (.skip rfl rfl rfl (by decide) (by decide)) (qe rfl (by decide) (.skip rfl rfl rfl (by decide) (by decide)) (qe rfl (by decide) (.skip rfl rfl rfl (by decide) (by decide)) (qe rfl (by decide) (.skipu rfl rfl rfl (by decide)) ?_))))
      refine qe rfl (by decide) (.skipu rfl rfl rfl (by decide)) (qe rfl (by decide) (.skipu rfl rfl rfl (by decide)) (qe rfl (by decide) (.skipu rfl rfl rfl (by decide)) (qe rfl (by decide) (.skipu rfl rfl rfl (by decide)) (qe rfl (by decide) (.skipu rfl rfl rfl (by decide)) ?_))))
      refine qe rfl (by decide) (.skipu rfl rfl rfl (by decide)) (qe rfl (by decide) (.skipu rfl rfl rfl (by decide)) (qau ⟨rfl, rfl, ?_⟩)); refine qaG rfl rfl rfl (by decide) rfl (by decide) (zS rfl rfl rfl rfl (zA rfl (qj rfl rfl rfl) (qc ?_)))
      refine qa (qaj rfl (qd (qb (zN rfl rfl rfl (qc (qa (qm ?_))))))); refine qL (ql (ql (qL (ql (?_)))))
      -- leaf 0F1Tl18Tl23F
      refine ret0 (noL hL) (.inl rfl) (qf rfl (qh)) ?_ ?_
      · rfl
      refine ⟨qW ?_, rfl⟩
      symm
      rw [mayB]
      have hst : qc1 l k = false := by
        rw [qbQ hu]
        first | (rw [m18]; simp; done) | (rw [m23]; simp; done) | (rw [ha]; simp [ltS_no c2]; omega)
      have : (List.range l.length).all (qc1 l) = false := List.all_eq_false.2 ⟨k, by simp; omega, by simp [hst]⟩
      rw [this]; simp
    have m18 := l18
    try simp only [↓cqA, cqB] at m18
    refine q8 22 qbd rfl rfl rfl rfl (qe rfl (by decide) (.run rfl (qg rfl qai rfl)) (qe rfl (by decide) (.run rfl (qr rfl qT rfl rfl rfl rfl rfl)) ?_))
    refine qe rfl (by decide) (.run rfl (qN (avs := [_]) true rfl en_term_Var rfl rfl (by have hh := Var_ok u.name; rw [l18] at hh; exact hh) (fun _ => rfl) rfl)) ?_; refine qe rfl (by decide) (.run rfl (qU rfl rfl)) ?_; refine qe rfl (by decide) (.run rfl (qk (.inl rfl) rfl)) ?_; refine qe rfl (by decide) (.skip rfl rfl rfl (by decide) (by decide)) ?_
    refine qe rfl (by decide) (.skip rfl rfl rfl (by decide) (by decide)) (qe rfl (by decide) (.skip rfl rfl rfl (by decide) (by decide)) (qe rfl (by decide) (.skip rfl rfl rfl (by decide) (by decide)) (qe rfl (by decide) (.run rfl (qj rfl rfl rfl)) (qe rfl (by decide) (.run rfl (qk (.inl rfl) rfl)) ?_))))
    refine qe rfl (by decide) (.skip rfl rfl rfl (by decide) (by decide)) (qe rfl (by decide) (.skip rfl rfl rfl (by decide) (by decide)) (qe rfl (by decide) (.skip rfl rfl rfl (by decide) (by decide)) (qe rfl (by decide) (.skipu rfl rfl rfl (by decide)) (qe rfl (by decide) (.skipu rfl rfl rfl (by decide)) ?_))))
    refine qe rfl (by decide) (.skipu rfl rfl rfl (by decide)) (qe rfl (by decide) (.skipu rfl rfl rfl (by decide)) (qe rfl (by decide) (.skipu rfl rfl rfl (by decide)) (qe rfl (by decide) (.skipu rfl rfl rfl (by decide)) (qe rfl (by decide) (.skipu rfl rfl rfl (by decide)) ?_))))
    refine qe rfl (by decide) (.skipu rfl rfl rfl (by decide)) (qau ⟨rfl, rfl, ?_⟩); refine qaG rfl rfl rfl (by decide) rfl (by decide) (zS rfl rfl rfl rfl (zA rfl (qj rfl rfl rfl) (qc (qa (qaj rfl (qd (qb ?_))))))); refine zN rfl rfl rfl (qc (qa (qm (qL (ql (ql (qL (ql (?_)))))))))
    -- leaf 0F1Tl18F
    refine ret0 (noL hL) (.inl rfl) (qf rfl (qh)) ?_ ?_
    · rfl
    refine ⟨qW ?_, rfl⟩
    symm
    rw [mayB]
    have hst : qc1 l k = false := by
      rw [qbQ hu]
      first | (rw [m18]; simp; done) | (rw [m23]; simp; done) | (rw [ha]; simp [ltS_no c2]; omega)
    have : (List.range l.length).all (qc1 l) = false := List.all_eq_false.2 ⟨k, by simp; omega, by simp [hst]⟩
    rw [this]; simp
  try simp only [↓cqA, cqB] at c1
  have hst : ∀ j, j < l.length → qc1 l j = true := fun j hj => hp.2 j (by omega)
  have hok := steps_bok hst (by omega) hw
  have hwt : Tm.wfs (l.map Bd.t) := wfs_of (fun t ht => by obtain ⟨b, hb, rfl⟩ := List.mem_map.1 ht; exact (hw b hb).2)
  have hmt : ∀ t ∈ l.map Bd.t, mayT t = true := fun t ht => by obtain ⟨b, hb, rfl⟩ := List.mem_map.1 ht; exact (hok.el b hb).2
  have hsum := noteL_sum hmt
  have hnm := Names_ok 5 (l.map Bd.t) (fun t ht => (qa6 (hmt t ht)).1) hwt (by simp; omega) (by rw [List.length_map] at hsum; omega)
  have hnl := noteL_len 5 (l.map Bd.t) []
  refine qQ (qq (qq (q7 ?_))); refine qa (qd (qb (zA rfl (stp_makeFunc (vs := [_]) rfl rfl) (zN rfl rfl rfl (qc (qa (qd ?_))))))); refine qb (zA rfl (qr rfl qap rfl rfl rfl rfl rfl) ?_)
  refine qaN (avs := [_]) false rfl rfl rfl (by decide) en_bind_terms rfl rfl (terms_ok l hok.len) (rfl) (passO .nil) (by rintro r O' ⟨_, rfl⟩; exact frB rfl) (by rintro h; cases h) ?_
  rintro r O' ⟨rfl, rfl⟩
  refine qaN (avs := [_]) true rfl rfl rfl (by decide) en_term_Names rfl rfl (hnm) (rfl) (passO .nil) (by rintro r O' ⟨_, rfl⟩; exact frB rfl) (by rintro - r O' ⟨⟨L, _, _, rfl⟩, rfl⟩; exact ⟨rfl, rfl⟩) ?_
  rintro r O' ⟨⟨L, g1, g2, rfl⟩, rfl⟩
  have hLl := rising_len g1 g2
  refine qar (qcK hQ) (zM rfl rfl rfl ?_)
  refine qaN (avs := [_, _]) false rfl rfl rfl (by decide) qcN rfl rfl (ContainsFunc_st_ok false L _ rfl (by simp only [noteL] at hLl; simp only [List.length_nil] at hnl; rw [List.length_map] at hsum; omega) _ [.ptr 1 0] en_bind_May_1 (fun _ => [(1, .box [bdA l])]) (fun k => match L[k]? with | some s => hasB l s | none => false) ⟨fun k l => rfl, fun k => passO (.cons rfl trivial rfl .nil), fun k => rfl, fun k => rfl, fun k => rfl, fun k => rfl, fun h => by cases h⟩ (fun k s hs _ => by rw [hs]; exact bindMay1_ok l hok s)) (rfl) (passO (.cons rfl trivial rfl .nil)) (by rintro r O' ⟨m, n, b, _, _, _, _, rfl⟩; exact frB rfl) (by rintro h; cases h) ?_
  rintro r O' ⟨m, n, b, hm1, hf1, hc, rfl, rfl⟩
  refine zA rfl (qU rfl rfl) (zN rfl rfl rfl (qc (qa (qm ?_))))
  -- leaf 0F1F
  refine ret0 (noL hL) (.inl rfl) (qf rfl (qh)) ?_ ?_
  · rfl
  refine ⟨qW ?_, rfl⟩
  rw [any_found g2 hf1 hc, mayB, decide_eq_true (by omega), List.all_eq_true.2 (fun j hj => hst j (by simpa using hj))]
  rfl
end Go.Proofs.YtdecgkhdbfgldaaGreat
