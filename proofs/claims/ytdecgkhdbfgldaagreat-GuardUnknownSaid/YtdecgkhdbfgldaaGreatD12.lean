/- Part 12 of the proof: Gi, Gj, Gm, Gn, Hb. -/
import Derived.Test.YtdecgkhdbfgldaaGreatD11
set_option linter.unusedVariables false
set_option linter.unusedSimpArgs false
set_option maxRecDepth 8000
namespace Go.Proofs.YtdecgkhdbfgldaaGreat
open Go
def eqBd (a b : Bd) : Bool := decide (a.name = b.name) && eqT 5 a.t b.t
theorem EqBind_ok (a b : Bd) (hd : dle 5 a.t) (ha : a.wf) (hb : b.wf) : PF 96 [.agg (lift false (bdD a)), .agg (lift false (bdD b))] (bv (eqBd a b)) := by
  have ha2 := ha.2
  have hb2 := hb.2
  refine qG Tryz.func96 rfl Tryz.ntmps96 (Nat.le_of_ble_eq_true rfl) fun c hL hQ hDD => (qd (qb (qz rfl rfl (by decide) (qab 2 rfl rfl rfl) rfl (qz rfl rfl (by decide) (qab 3 rfl rfl rfl) rfl (zN rfl rfl rfl (qc (qa ?_))))))); refine qd (qb (zA rfl (qg rfl qai rfl) (zA rfl (qr rfl qT rfl rfl rfl rfl rfl) ?_)))
  refine zA rfl (qg rfl qai rfl) (zA rfl (qr rfl qT rfl rfl rfl rfl rfl) (zA rfl (qbn rfl rfl rfl rfl) (zM rfl rfl rfl (qA 10 rfl (fun g10 => ?_) (fun g10 => ?_)))))
  · try simp only [↓cqA, cqB] at g10
    refine zG rfl rfl rfl rfl (qg rfl qan rfl) (zG rfl rfl rfl rfl (qr rfl qi rfl rfl rfl rfl rfl) (zG rfl rfl rfl rfl (qg rfl qan rfl) (zG rfl rfl rfl rfl (qr rfl qi rfl rfl rfl rfl rfl) ?_)))
    refine zG rfl rfl rfl rfl (qN (avs := [_, _]) true rfl qaC rfl rfl (qcz 5 a.t b.t hd ha2 hb2) (fun _ => rfl) rfl) (zA rfl (qj rfl rfl rfl) (zN rfl rfl rfl (qc (qa (qm ?_)))))
    -- leaf g10T
    refine ret0 (noL hL) (.inl rfl) (qf rfl (qh)) ?_ ?_
    · rfl
    refine ⟨qW ?_, rfl⟩
    simp_all [eqBd]
  try simp only [↓cqA, cqB] at g10
  refine zS rfl rfl rfl rfl (zS rfl rfl rfl rfl (zS rfl rfl rfl rfl (zS rfl rfl rfl rfl (zS rfl rfl rfl rfl (zA rfl (qj rfl rfl rfl) (zN rfl rfl rfl (qc ?_))))))); refine qa (qm ?_)
  -- leaf g10F
  refine ret0 (noL hL) (.inl rfl) (qf rfl (qh)) ?_ ?_
  · rfl
  refine ⟨qW ?_, rfl⟩
  simp_all [eqBd]
def eqBds : List Bd → List Bd → Bool
  | [], [] => true
  | a :: l, b :: m => eqBd a b && eqBds l m
  | _, _ => false
theorem eqBds_len : ∀ {l m : List Bd}, l.length ≠ m.length → eqBds l m = false
  | [], [], h => absurd rfl h
  | a :: l, b :: m, h => by simp only [eqBds, eqBds_len (l := l) (m := m) (by simpa using h), Bool.and_false]
  | [], _ :: _, _ => rfl
  | _ :: _, [], _ => rfl
theorem eqBds_true : ∀ {l m : List Bd}, l.length = m.length → (∀ (j : Nat) (a b : Bd), l[j]? = some a → m[j]? = some b → eqBd a b = true) → eqBds l m = true
  | [], [], _, _ => rfl
  | a :: l, b :: m, hl, h => by
    have h0 := h 0 a b rfl rfl
    have ih := eqBds_true (l := l) (m := m) (by simpa using hl) (fun j x y hx hy => h (j + 1) x y (by simpa using hx) (by simpa using hy))
    simp [eqBds, h0, ih]
  | [], _ :: _, hl, _ => by simp at hl
  | _ :: _, [], hl, _ => by simp at hl
theorem eqBds_false : ∀ {l m : List Bd} (k : Nat) {a b : Bd}, l[k]? = some a → m[k]? = some b → eqBd a b = false → eqBds l m = false
  | a :: l, b :: m, 0, x, y, hx, hy, h => by
    simp only [List.getElem?_cons_zero, Option.some.injEq] at hx hy
    subst hx; subst hy
    simp [eqBds, h]
  | a :: l, b :: m, k + 1, x, y, hx, hy, h => by
    have := eqBds_false (l := l) (m := m) k (by simpa using hx) (by simpa using hy) h
    simp [eqBds, this]
  | [], _, _, _, _, hx, _, _ => by simp at hx
  | _ :: _, [], _, _, _, _, hy, _ => by simp at hy
theorem EqBinds_ok (x y : List Bd) (hd : ∀ u ∈ x, dle 5 u.t) (wx : ∀ u ∈ x, u.wf) (wy : ∀ u ∈ y, u.wf) (lx : x.length ≤ 140737488351232) (ly : y.length ≤ 140737488351232) : PF 28 [bdA x, bdA y] (bv (eqBds x y)) := by
  have hlx := qak x
  have hly := qak y
  refine qG Tryz.func28 rfl Tryz.ntmps28 (Nat.le_of_ble_eq_true rfl) fun c hL hQ hDD => (qd (qb (zN rfl rfl rfl (qc (qa (qd (qd ?_))))))); refine qb (zM rfl rfl rfl (zA rfl (qy rfl qp rfl) (zM rfl rfl rfl (zA rfl (qy rfl qp rfl) ?_))))
  refine zA rfl (qn rfl rfl rfl rfl) (qc (qa (qu rfl (fun c0 => ?_) (fun c0 => ?_))))
  · try simp only [↓cqA, cqB] at c0
    refine qd (qb (zN rfl rfl rfl (qc (qa (qm (ql (?_)))))))
    -- leaf 0T
    refine ret0 (noL hL) (.inl rfl) (qf rfl (qh)) ?_ ?_
    · rfl
    exact ⟨qW (eqBds_len (by omega)).symm, rfl⟩
  try simp only [↓cqA, cqB] at c0
  refine qt (qa (qd (qd (qb (zN rfl rfl rfl (qc (qa ?_))))))); refine qB (qV (x.length) (fun k => k ≤ x.length ∧ ∀ j a b, j < k → x[j]? = some a → y[j]? = some b → eqBd a b = true) (fun k => ⟨[(0, bdA x), (1, bdA y), (5, iv (k : Int))], []⟩) (⟨by omega, fun j a b hj => absurd hj (by omega)⟩) ?_ (fun k hk hp => ?_))
  · exact qI (SubT.cons (zT rfl) (SubT.cons (zT rfl) (SubT.cons (zT rfl) (SubT.nil)))) (SubO.nil) rfl rfl (noL' (noL hL) _)
  refine qd (qd (qb (zM rfl rfl rfl (zM rfl rfl rfl (zA rfl (qy rfl qp rfl) (zA rfl (qn rfl rfl rfl rfl) (qc ?_))))))); refine qa (qu rfl (fun c1 => ?_) (fun c1 => ?_))
  · try simp only [↓cqA, cqB] at c1
    obtain ⟨u, hu⟩ := qK (l := x) (k := k) (by omega)
    obtain ⟨v, hv⟩ := qK (l := y) (k := k) (by omega)
    refine qt (qa (qd (qB (qd (q8 8 qbd rfl rfl rfl rfl (qe rfl (by decide) (.run rfl (qk (.inl rfl) rfl)) (qe rfl (by decide) (.run rfl (qk (.inl rfl) rfl)) ?_))))))); refine qe rfl (by decide) (.run rfl (qo rfl qp rfl rfl (by omega) (qaI hu))) (qe rfl (by decide) (.run rfl (qD rfl qav rfl rfl)) ?_)
    refine qe rfl (by decide) (.run rfl (qk (.inl rfl) rfl)) (qe rfl (by decide) (.run rfl (qk (.inl rfl) rfl)) (qe rfl (by decide) (.run rfl (qo rfl qp rfl rfl (by omega) (qaI hv))) (qe rfl (by decide) (.run rfl (qD rfl qav rfl rfl)) ?_)))
    refine qau ⟨rfl, rfl, ?_⟩; refine qC (avs := [_, _]) true rfl rfl rfl (by decide) en_almagestref0_EqBind rfl rfl (EqBind_ok u v (hd u (List.mem_of_getElem? hu)) (wx u (List.mem_of_getElem? hu)) (wy v (List.mem_of_getElem? hv))) rfl rfl (zA rfl (qU rfl rfl) (qc (qa (qu rfl (fun c2 => ?_) (fun c2 => ?_)))))
    · try simp only [↓cqA, cqB] at c2
      refine qd (qb (zN rfl rfl rfl (qc (qa (qm (qL (ql (ql (qL (ql (?_)))))))))))
      -- leaf 0F1T2T
      refine ret0 (noL hL) (.inl rfl) (qf rfl (qh)) ?_ ?_
      · rfl
      exact ⟨qW (eqBds_false k hu hv c2).symm, rfl⟩
    try simp only [↓cqA, cqB] at c2
    refine qt (qP (qa (qb (zM rfl rfl rfl (zA rfl (qM rfl rfl rfl (by omega)) (zN rfl rfl rfl (qc ?_))))))); refine qa ?_; refine ⟨?_, ?_, ?_⟩
    · skip
      omega
    · skip
      refine ⟨by omega, fun j a b hj ha hb => ?_⟩
      by_cases hjk : j < k
      · exact hp.2 j a b hjk ha hb
      · rw [show j = k by omega] at ha hb; rw [hu] at ha; rw [hv] at hb; cases ha; cases hb; exact c2
    exact qI (SubT.cons (zT rfl) (SubT.cons (zT rfl) (SubT.cons (zT rfl) (SubT.nil)))) (SubO.nil) rfl rfl (noL' (noL hL) _)
  try simp only [↓cqA, cqB] at c1
  refine qQ (qq (qq (q7 ?_))); refine qa (qd (qb (zN rfl rfl rfl (qc (qa (qm ?_))))))
  -- leaf 0F1F
  refine ret0 (noL hL) (.inl rfl) (qf rfl (qh)) ?_ ?_
  · rfl
  exact ⟨qW (eqBds_true (by omega) (fun j a b ha hb => hp.2 j a b (by have := (List.getElem?_eq_some_iff.1 ha).1; omega) ha hb)).symm, rfl⟩
end Go.Proofs.YtdecgkhdbfgldaaGreat

set_option linter.unusedVariables false
set_option linter.unusedSimpArgs false
namespace Go.Proofs.YtdecgkhdbfgldaaGreat
open Go
theorem eqL_iff (f : Tm → Tm → Bool) : ∀ (l m : List Tm), (∀ u v, u ∈ l → (f u v = true ↔ u = v)) → (eqL f l m = true ↔ l = m)
  | [], [], _ => by simp [eqL]
  | [], _ :: _, _ => by simp [eqL]
  | _ :: _, [], _ => by simp [eqL]
  | a :: l, b :: m, h => by
    have ih := eqL_iff f l m (fun u v hu => h u v (by simp [hu]))
    simp only [eqL, Bool.and_eq_true, h a b (by simp), ih, List.cons.injEq]
theorem bext {a b : ByteArray} (h : a.data.toList = b.data.toList) : a = b := by
  cases a; cases b; congr 1; exact Array.toList_inj.1 h
theorem eqT_iff : ∀ (d : Nat) (a b : Tm), dle d a → (eqT d a b = true ↔ a = b)
  | 0, a, b, h => h.elim
  | d + 1, a, b, h => by
    have ih := eqL_iff (eqT d) a.args b.args (fun u v hu => eqT_iff d u v (h u hu))
    rw [eqT]
    simp only [Bool.and_eq_true, decide_eq_true_eq, ih, data_inj]
    cases a; cases b
    simp only [Tm.mk.injEq]
    constructor
    · rintro ⟨⟨⟨h1, h2⟩, h3⟩, h4⟩; exact ⟨h1, bext h2, h3, h4⟩
    · rintro ⟨h1, h2, h3, h4⟩; exact ⟨⟨⟨h1, by rw [h2]⟩, h3⟩, h4⟩
theorem eqT_self {a : Tm} (h : dle 5 a) : eqT 5 a a = true := (eqT_iff 5 a a h).2 rfl
theorem eqBds_self : ∀ {l : List Bd}, (∀ b ∈ l, dle 5 b.t) → eqBds l l = true
  | [], _ => rfl
  | a :: l, h => by
    rw [eqBds, eqBd, eqT_self (h a (by simp)), eqBds_self fun b hb => h b (by simp [hb])]
    simp
structure RE (l : List Bd) : Prop where
  ris : RisB l
  el : ∀ b ∈ l, b.wf ∧ mayT b.t = true
theorem lookT_mem {l : List Bd} (h : RisB l) {b : Bd} (hb : b ∈ l) : lookT l b.name = b.t := by
  have hs : hasB l b.name = true := (qb7 _ _).2 ⟨b, hb, rfl⟩
  have h1 := gB_mem h hb
  have h2 := (lookB_has l b.name h).1
  rw [hs] at h2
  rw [gB] at h1
  rw [lookT]
  cases hh : lookB l b.name with
  | none => rw [hh] at h2; cases h2
  | some t => rw [hh] at h1; exact h1
def Agree (a b : List Bd) : Prop := ∀ x ∈ a, ∀ y ∈ b, x.name = y.name → x.t = y.t
theorem bothStep_mem {x : List Bd} {y : Bd} (hx : RE x) (hy : qbO x y = false) (b : Bd) : b ∈ qbc x y ↔ b ∈ x ∨ b = y := by
  unfold qbc
  split
  · rename_i hh
    obtain ⟨c, hc, e⟩ := (qb7 _ _).1 hh
    have ht : c.t = y.t := by
      simp only [qbO, hh, Bool.true_and, Bool.not_eq_false', decide_eq_true_eq] at hy
      rw [← e, lookT_mem hx.ris hc] at hy
      exact (eqT_iff 5 _ _ (qao (hx.el c hc).2)).1 ((cmpT_zero 5 _ _ (qao (hx.el c hc).2)).1 hy)
    have hcy : c = y := by cases c; cases y; simp only at e ht; subst e; subst ht; rfl
    subst hcy
    constructor
    · intro h; exact .inl h
    · rintro (h | rfl)
      · exact h
      · exact hc
  · exact mem_ins _ _ _ _
theorem bothStep_RE {x : List Bd} {y : Bd} (hx : RE x) (hy : y.wf ∧ mayT y.t = true) : RE (qbc x y) := by
  unfold qbc
  split
  · exact hx
  · rename_i hh
    refine ⟨ins_ris hx.ris (by simpa using hh), fun b hb => ?_⟩
    rcases (mem_ins _ _ _ _).1 hb with h | rfl
    · exact hx.el b h
    · exact hy
theorem bothX_spec : ∀ (b : List Bd) (x : List Bd), RE x → RisB b → (∀ y ∈ b, y.wf ∧ mayT y.t = true) → (qcZ x b = true ↔ Agree x b) ∧ (qcZ x b = true → RE (qbV x b) ∧ ∀ c, c ∈ qbV x b ↔ c ∈ x ∨ c ∈ b)
  | [], x, hx, _, _ => ⟨⟨(fun _ a _ y hy => by cases hy), fun _ => rfl⟩, fun _ => ⟨hx, fun c => by simp [qbV]⟩⟩
  | y :: b, x, hx, hr, hy => by
    have hr2 := List.pairwise_cons.1 hr
    have h1 := bothStep_RE hx (hy y (by simp))
    obtain ⟨i1, i2⟩ := bothX_spec b (qbc x y) h1 hr2.2 fun z hz => hy z (by simp [hz])
    have hbad : qbO x y = false ↔ ∀ a ∈ x, a.name = y.name → a.t = y.t := by
      constructor
      · intro h a ha e
        have hh : hasB x y.name = true := (qb7 _ _).2 ⟨a, ha, e⟩
        simp only [qbO, hh, Bool.true_and, Bool.not_eq_false', decide_eq_true_eq] at h
        rw [← e, lookT_mem hx.ris ha] at h
        exact (eqT_iff 5 _ _ (qao (hx.el a ha).2)).1 ((cmpT_zero 5 _ _ (qao (hx.el a ha).2)).1 h)
      · intro h
        cases hh : hasB x y.name with
        | false => simp [qbO, hh]
        | true =>
          obtain ⟨a, ha, e⟩ := (qb7 _ _).1 hh
          simp only [qbO, hh, Bool.true_and, Bool.not_eq_false', decide_eq_true_eq]
          rw [← e, lookT_mem hx.ris ha, h a ha e]
          have hd : dle 5 y.t := by rw [← h a ha e]; exact qao (hx.el a ha).2
          exact (cmpT_zero 5 _ _ hd).2 (eqT_self hd)
    refine ⟨?_, fun h => ?_⟩
    · rw [qcZ, Bool.and_eq_true, i1, Bool.not_eq_true']
      constructor
      · rintro ⟨h2, h3⟩ a ha z hz e
        rcases List.mem_cons.1 hz with rfl | hz
        · exact hbad.1 h2 a ha e
        · exact h3 a ((bothStep_mem hx h2 a).2 (.inl ha)) z hz e
      · intro h
        have h2 := hbad.2 fun a ha e => h a ha y (by simp) e
        refine ⟨h2, fun a ha z hz e => ?_⟩
        rcases (bothStep_mem hx h2 a).1 ha with ha | rfl
        · exact h a ha z (by simp [hz]) e
        · have := hr2.1 z hz; rw [e, ltS_irrefl] at this; cases this
    · rw [qcZ, Bool.and_eq_true, Bool.not_eq_true'] at h
      obtain ⟨k1, k2⟩ := i2 h.2
      have e : qbV x (y :: b) = qbV (qbc x y) b := rfl
      rw [e]
      refine ⟨k1, fun c => ?_⟩
      rw [k2, bothStep_mem hx h.1]
      simp only [List.mem_cons]
      constructor
      · rintro ((h | h) | h) <;> simp [h]
      · rintro (h | h | h) <;> simp [h]
end Go.Proofs.YtdecgkhdbfgldaaGreat

set_option linter.unusedVariables false
set_option linter.unusedSimpArgs false
set_option maxRecDepth 8000
namespace Go.Proofs.YtdecgkhdbfgldaaGreat
open Go
theorem bindOwnF_ok (l : List Bd) (hl : BOk l) : PF 102 [bdA l] (bdA l) := by
  have hlen := qak l
  have hll := hl.len
  refine qG Tryz.func102 rfl Tryz.ntmps102 (Nat.le_of_ble_eq_true rfl) fun c hL hQ hDD => (qd (qb (zN rfl rfl rfl (qc (qa (qd (qd ?_))))))); refine qb (zM rfl rfl rfl (zA rfl (qy rfl qp rfl) ?_))
  refine zM rfl rfl rfl (qc (qa (qB (qV (l.length) (fun k => k ≤ l.length) (fun k => ⟨[(2, .row 2), (5, bdA l), (6, iv (bdDs l).length), (7, iv (k : Int))], [(2, .rowd 40 5 true (bdDs (l.take k)))]⟩) (by omega) ?_ (fun k hk hp => ?_)))))
  · exact Sub.trans (qaL (t := 2) (l := 2) 40 5 true rfl rfl) (qI (SubT.cons (zT rfl) (SubT.cons (zT rfl) (SubT.cons (zT rfl) (SubT.cons (zT rfl) (SubT.nil))))) (SubO.cons (qag rfl (by rfl)) (SubO.nil)) rfl rfl (noL' (noL hL) _))
  have hl2 : (bdDs (l.take k)).length ≤ l.length := by rw [qak, List.length_take]; omega
  refine qd (qb (zA rfl (qn rfl rfl rfl rfl) (qc (qa (qd (qu rfl (fun c0 => ?_) (fun c0 => ?_)))))))
  · try simp only [↓cqA, cqB] at c0
    obtain ⟨u, hu⟩ := qK (l := l) (k := k) (by omega)
    have hum := hl.el u (List.mem_of_getElem? hu)
    have key := Own_ok 5 u.t (qa6 hum.2).1 hum.1.2
    rw [own_may 5 u.t 24 hum.2] at key
    refine qt (qa (qd (qB (qd (qb (zA rfl (qo rfl qp rfl rfl (by omega) (qaI hu)) (zA rfl (qD rfl qav rfl rfl) ?_)))))))
    refine qz rfl rfl (by decide) (qaf 4 rfl qaD rfl) rfl (qO rfl rfl rfl qav rfl rfl rfl rfl rfl rfl rfl rfl rfl (qc (qa (q8 8 qbd rfl rfl rfl rfl (qe rfl (by decide) (.run rfl (qk (.inl rfl) rfl)) (qe rfl (by decide) (.run rfl (qg rfl qai rfl)) (qe rfl (by decide) (.run rfl (qr rfl qT rfl rfl rfl rfl rfl)) ?_))))))); refine qe rfl (by decide) (.run rfl (qg rfl qan rfl)) ?_
    refine qe rfl (by decide) (.run rfl (qr rfl qi rfl rfl rfl rfl rfl)) (qe rfl (by decide) (.run rfl (qN (avs := [_]) true rfl en_term_Own rfl rfl (key) (fun _ => rfl) rfl)) (qe rfl (by decide) (.run rfl (qbx rfl qaD rfl qcU rfl rfl)) (MGo_c1 rfl (by decide) (.run rfl (qS 18 rfl qp qaD rfl rfl (by decide) (by decide) (by decide) rfl rfl rfl)) (qau ⟨rfl, rfl, ?_⟩))))
    refine qbt rfl rfl (by decide) (qaA 19 qaW rfl rfl rfl rfl rfl rfl rfl rfl (noL hL _) (by omega) rfl) rfl (zN rfl rfl rfl (qc (qP (qa (qb (zA rfl (qM rfl rfl rfl (by omega)) (zM rfl rfl rfl ?_))))))); refine qc (qa ?_); refine ⟨?_, ?_, ?_⟩
    · skip
      omega
    · skip
      omega
    exact Sub.trans (qaE 19 2 (noL hL _) (noL hL _)) (qI (SubT.cons (zT rfl) (SubT.cons (zT rfl) (SubT.cons (zT rfl) (SubT.cons (zT rfl) (SubT.nil))))) (SubO.cons (qag rfl (by rw [qah hu, bdDs, bdDs, List.map_append]; rfl)) (SubO.nil)) rfl rfl (noL' (noL hL) _))
  try simp only [↓cqA, cqB] at c0
  refine qQ (qq (qq (q7 ?_))); refine qa (qd (qbb (qam (l := 2) rfl (by decide) (noL hL _) rfl rfl) (qbb (qcK hQ) (qb (zM rfl rfl rfl (zN rfl rfl rfl (qc ?_))))))); refine qa (qm ?_)
  -- leaf 0F
  refine ret0 (noL hL) (.inl rfl) (qf rfl (qh)) ?_ ?_
  · rfl
  exact ⟨by rw [List.take_of_length_le (by omega)]; rfl, rfl⟩
mutual
def fitR : Nat → List Bd → Tm → Tm → List Bd × Int
  | 0, _, _, _ => ([], 3)
  | d + 1, l, a, b => if a.kind = 1 then (if hasB l a.name = true then (if cmpT 5 (lookT l a.name) b = 0 then (l, 0) else ([], 3)) else (qci l a.name b, standE l a.name b)) else if qcV a b = true then fitL d l (a.args.zip b.args) else ([], 3)
def fitL : Nat → List Bd → List (Tm × Tm) → List Bd × Int
  | _, l, [] => (l, 0)
  | d, l, p :: ps => if (fitR d l p.1 p.2).2 ≠ 0 then ([], (fitR d l p.1 p.2).2) else fitL d (fitR d l p.1 p.2).1 ps
end
theorem fitL_snoc (d : Nat) (p : Tm × Tm) : ∀ (ps : List (Tm × Tm)) (l : List Bd), (fitL d l ps).2 = 0 → fitL d l (ps ++ [p]) = if (fitR d (fitL d l ps).1 p.1 p.2).2 ≠ 0 then ([], (fitR d (fitL d l ps).1 p.1 p.2).2) else ((fitR d (fitL d l ps).1 p.1 p.2).1, 0)
  | [], l, _ => by simp only [List.nil_append, fitL]
  | q :: ps, l, h => by
    rw [fitL] at h
    rw [List.cons_append, fitL, fitL]
    split at h
    · rename_i hc; exact absurd h hc
    · rename_i hc
      rw [if_neg hc, if_neg hc]
      exact fitL_snoc d p ps _ h
theorem qcr (d : Nat) : ∀ (ps qs : List (Tm × Tm)) (l : List Bd), (fitL d l ps).2 ≠ 0 → fitL d l (ps ++ qs) = fitL d l ps
  | [], qs, l, h => by rw [fitL] at h; exact absurd rfl h
  | q :: ps, qs, l, h => by
    rw [List.cons_append, fitL, fitL]
    rw [fitL] at h
    split
    · rfl
    · rename_i hc
      rw [if_neg hc] at h
      exact qcr d ps qs _ h
theorem standL_bok {l : List Bd} (h : BOk l) {s : ByteArray} (hs : s.size ≤ 140737488351232) {t : Tm} (ht : t.wf) (hm : mayT t = true) (hl : hasB l s = false) : BOk (qci l s t) := by
  unfold qci
  split
  · exact ⟨List.Pairwise.nil, by simp, fun b hb => by cases hb⟩
  · rename_i hc
    have hg : goodB [⟨s, t⟩] l = true := by
      cases hx : goodB [⟨s, t⟩] l with
      | true => rfl
      | false => exact absurd (.inr hx) hc
    have hsb : hasB (subB [⟨s, t⟩] l) s = false := by
      rw [hasB_no] at hl ⊢
      intro b hb
      obtain ⟨c, hc2, rfl⟩ := List.mem_map.1 hb
      exact hl c hc2
    have hr := ins_ris (y := ⟨s, t⟩) (subB_ris [⟨s, t⟩] h.ris) hsb
    rw [subB_pos] at hr
    refine ⟨hr, ?_, fun b hb => ?_⟩
    · rw [qa0 _ _ _ (by rw [qco]; exact posB_le l s), qco]; omega
    · rcases (mem_ins _ _ _ _).1 hb with hb | rfl
      · obtain ⟨c, hc2, rfl⟩ := List.mem_map.1 hb
        have := List.all_eq_true.1 hg c hc2
        exact ⟨⟨(h.el c hc2).1.1, qcq (one_bok hs ht hm) (h.el c hc2).1.2⟩, (into_may (by simpa using this)).1⟩
      · exact ⟨⟨hs, ht⟩, hm⟩
theorem may_arg {b v : Tm} (h : mayT b = true) (hv : v ∈ b.args) : mayT v = true := by
  rw [mayT_iff] at h ⊢
  refine ⟨h.1.arg hv, dle_mono 4 5 v (by omega) (h.2.1 v hv), ?_⟩
  have h2 := Tm.sz_eq b
  obtain ⟨i, hi⟩ := List.getElem?_of_mem hv
  have := sum_split (l := b.args) (k := i) (u := v) Tm.sz hi
  omega
theorem nil_bok : BOk [] := ⟨List.Pairwise.nil, by simp, fun b hb => by cases hb⟩
mutual
theorem fitR_bok : ∀ (d : Nat) (l : List Bd) (a b : Tm), BOk l → a.wf → b.wf → mayT b = true → BOk (fitR d l a b).1
  | 0, l, a, b, _, _, _, _ => by rw [fitR]; exact nil_bok
  | d + 1, l, a, b, h, ha, hb, hm => by
    rw [fitR]
    split
    · split
      · split
        · exact h
        · exact nil_bok
      · rename_i hh; exact standL_bok h ha.2.1 hb hm (by simpa using hh)
    · split
      · exact fitL_bok d (a.args.zip b.args) l h fun p hp => by
          have := List.of_mem_zip hp
          exact ⟨Tm.wfs_mem ha.2.2.2.2 this.1, Tm.wfs_mem hb.2.2.2.2 this.2, may_arg hm this.2⟩
      · exact nil_bok
theorem fitL_bok : ∀ (d : Nat) (ps : List (Tm × Tm)) (l : List Bd), BOk l → (∀ p ∈ ps, p.1.wf ∧ p.2.wf ∧ mayT p.2 = true) → BOk (fitL d l ps).1
  | d, [], l, h, _ => by rw [fitL]; exact h
  | d, p :: ps, l, h, hp => by
    rw [fitL]
    split
    · exact nil_bok
    · obtain ⟨h1, h2, h3⟩ := hp p (by simp)
      exact fitL_bok d ps _ (fitR_bok d l p.1 p.2 h h1 h2 h3) fun q hq => hp q (by simp [hq])
end
def fitPost (q : List Bd × Int) (r : AV) : Prop := (r = .tup [.imm (.slice none 0 0), iv q.2] ∧ q.1 = []) ∨ r = .tup [bdA q.1, iv q.2]
theorem fitPost_ok {f : FuncId} {args : List AV} {q : List Bd × Int} (h : AC Tryz.prog f args [] (fun r O => fitPost q r ∧ O = [])) : PF f args (.tup [bdA q.1, iv q.2]) :=
  AC_leP h (fun r O' h => by
    obtain ⟨⟨rfl, e1⟩ | rfl, rfl⟩ := h
    · exact ⟨_, .tup (.cons (.nil (f := false) (k := 5)) (.cons .refl .nil)), by rw [e1]; rfl, rfl⟩
    · exact ⟨_, .refl, rfl, rfl⟩)
theorem Fit_ok : ∀ (d : Nat) (l : List Bd) (a b : Tm), dle d a → a.shp → a.wf → BOk l → b.wf → mayT b = true → PF 201 [bdA l, tmA false a, tmA false b] (.tup [bdA (fitR d l a b).1, iv (fitR d l a b).2])
  | 0, l, a, b, h, _, _, _, _, _ => h.elim
  | d + 1, l, a, b, h, hs, ha, hl, hb, hm => by
    refine fitPost_ok ?_
    have hln := hl.len
    have hal : a.args.length ≤ 4 := by
      rcases ((Tm.shp_iff a).1 hs).1 with ⟨_, _, _, e⟩ | ⟨_, _, _, e⟩ | ⟨_, _, _, e⟩ <;> simp_all
    have hlk : (lookT l a.name).wf ∧ dle 5 (lookT l a.name) ∨ hasB l a.name = false := by
      have h1 := (lookB_has l a.name hl.ris).1
      cases hh : hasB l a.name with
      | false => exact .inr rfl
      | true =>
        rw [hh] at h1
        cases h2 : lookB l a.name with
        | none => rw [h2] at h1; cases h1
        | some t => rw [lookT, h2]; exact .inl ⟨(hl.look h2).1, qao (hl.look h2).2⟩
    refine qG Tryz.func201 rfl Tryz.ntmps201 (Nat.le_of_ble_eq_true rfl) fun c hL hQ hDD => (qd (qb (qz rfl rfl (by decide) (qab 4 rfl rfl rfl) rfl (qz rfl rfl (by decide) (qab 5 rfl rfl rfl) rfl (zN rfl rfl rfl (zN rfl rfl rfl (qc ?_))))))); refine qa (qd (qd (qb (zA rfl (qg rfl q9 rfl) ?_))))
    refine zA rfl (qr rfl qay rfl rfl rfl rfl rfl) (zA rfl (qn rfl rfl rfl rfl) (qc (qa (qu rfl (fun c0 => ?_) (fun c0 => ?_)))))
    · try simp only [↓cqA, cqB] at c0
      refine qd (qb (zM rfl rfl rfl (zA rfl (qg rfl qad rfl) (zA rfl (qr rfl qT rfl rfl rfl rfl rfl) ?_))))
      refine qC (avs := [_, _]) false rfl rfl rfl (by decide) en_bind_Look rfl rfl (Look_ok l a.name hl.ris (by omega)) rfl rfl (zM rfl rfl rfl (zA rfl (qY rfl rfl rfl) (zA rfl (qY rfl rfl rfl) ?_)))
      refine qz rfl rfl (by decide) (qaf 8 rfl q6 rfl) rfl (qO rfl rfl rfl qi rfl rfl rfl rfl rfl rfl rfl rfl rfl (zN rfl rfl rfl (qc (qa (qd (qB (qd ?_))))))); refine qb (zM rfl rfl rfl (zM rfl rfl rfl (qA 28 rfl (fun g28 => ?_) (fun g28 => ?_))))
      · try simp only [↓cqA, cqB] at g28
        have hlk2 : (lookT l a.name).wf ∧ dle 5 (lookT l a.name) := by
          rcases hlk with h | h
          · exact h
          · rw [h] at g28; cases g28
        refine zG rfl rfl rfl rfl (qw rfl qi rfl rfl rfl rfl) (zG rfl rfl rfl rfl (qw rfl qi rfl rfl rfl rfl) (zG rfl rfl rfl rfl (qN (avs := [_, _]) true rfl qcs rfl rfl (Compare_ok 5 (lookT l a.name) b hlk2.2 hlk2.1 hb) (fun _ => rfl) rfl) (zG rfl rfl rfl rfl (qn rfl rfl rfl rfl) (zA rfl (qj rfl rfl rfl) ?_))))
        refine zN rfl rfl rfl (qc (qa (qu rfl (fun c1 => ?_) (fun c1 => ?_))))
        · try simp only [↓cqA, cqB] at c1
          refine qd (qb (zN rfl rfl rfl (zN rfl rfl rfl (qc (qa (qm (qL (ql (ql (?_))))))))))
          -- leaf 0Tg28T1T
          refine ret0 (noL hL) (.inl rfl) (qf rfl (qf rfl (qh))) ?_ ?_
          · rfl
          refine ⟨?_, rfl⟩
          rw [fitR]
          repeat' split
          all_goals first | exact .inl ⟨rfl, rfl⟩ | exact .inr rfl | (exfalso; simp_all; done)
        try simp only [↓cqA, cqB] at c1
        refine qd (qb (zM rfl rfl rfl (zN rfl rfl rfl (qc (qa (qu rfl (fun c2 => ?_) (fun c2 => ?_)))))))
        · try simp only [↓cqA, cqB] at c2
          refine qd (qb (zM rfl rfl rfl (zN rfl rfl rfl (zN rfl rfl rfl (qc (qa (qm ?_))))))); refine qL (ql (ql (?_)))
          -- leaf 0Tg28T1F2T
          refine ret0 (noL hL) (.inl rfl) (qf rfl (qf rfl (qh))) ?_ ?_
          · rfl
          refine ⟨?_, rfl⟩
          rw [fitR]
          repeat' split
          all_goals first | exact .inl ⟨rfl, rfl⟩ | exact .inr rfl | (exfalso; simp_all; done)
        try simp only [↓cqA, cqB] at c2
        have hno : hasB l a.name = false := by simp_all
        refine qt (qP (qa (qd (qb (zM rfl rfl rfl (zA rfl (qg rfl qad rfl) (zA rfl (qr rfl qT rfl rfl rfl rfl rfl) ?_))))))); refine zA rfl (qw rfl qi rfl rfl rfl rfl) ?_
        refine qC (avs := [_, _, _]) true rfl rfl rfl (by decide) en_bind_Stand rfl rfl (Stand_ok l hl a.name ha.2.1 b hb hm) rfl rfl (zA rfl (qY rfl rfl rfl) (zA rfl (qY rfl rfl rfl) (qar (qcK hQ) (zN rfl rfl rfl (zN rfl rfl rfl (qc (qa ?_))))))); refine qm (ql (?_))
        -- leaf 0Tg28T1F2F
        refine ret0 (noL hL) (.inl rfl) (qf rfl (qf rfl (qh))) ?_ ?_
        · rfl
        refine ⟨?_, rfl⟩
        rw [fitR]
        repeat' split
        all_goals first | exact .inl ⟨rfl, rfl⟩ | exact .inr rfl | (exfalso; simp_all; done)
      try simp only [↓cqA, cqB] at g28
      refine zS rfl rfl rfl rfl (zS rfl rfl rfl rfl (zS rfl rfl rfl rfl (zS rfl rfl rfl rfl (zA rfl (qj rfl rfl rfl) (zN rfl rfl rfl ?_)))))
      refine qc (qa (qas rfl (qd (qb (zM rfl rfl rfl (zN rfl rfl rfl (qc ?_))))))); refine qa (qu rfl (fun c2 => ?_) (fun c2 => ?_))
      · try simp only [↓cqA, cqB] at c2
        refine qd (qb (zM rfl rfl rfl (zN rfl rfl rfl (zN rfl rfl rfl (qc (qa (qm ?_))))))); refine qL (ql (ql (?_)))
        -- leaf 0Tg28F2T
        refine ret0 (noL hL) (.inl rfl) (qf rfl (qf rfl (qh))) ?_ ?_
        · rfl
        refine ⟨?_, rfl⟩
        rw [fitR]
        repeat' split
        all_goals first | exact .inl ⟨rfl, rfl⟩ | exact .inr rfl | (exfalso; simp_all; done)
      try simp only [↓cqA, cqB] at c2
      have hno : hasB l a.name = false := by simp_all
      refine qt (qP (qa (qd (qb (zM rfl rfl rfl (zA rfl (qg rfl qad rfl) (zA rfl (qr rfl qT rfl rfl rfl rfl rfl) ?_))))))); refine zA rfl (qw rfl qi rfl rfl rfl rfl) ?_
      refine qC (avs := [_, _, _]) true rfl rfl rfl (by decide) en_bind_Stand rfl rfl (Stand_ok l hl a.name ha.2.1 b hb hm) rfl rfl (zA rfl (qY rfl rfl rfl) (zA rfl (qY rfl rfl rfl) (qar (qcK hQ) (zN rfl rfl rfl (zN rfl rfl rfl (qc (qa ?_))))))); refine qm (ql (?_))
      -- leaf 0Tg28F2F
      refine ret0 (noL hL) (.inl rfl) (qf rfl (qf rfl (qh))) ?_ ?_
      · rfl
      refine ⟨?_, rfl⟩
      rw [fitR]
      repeat' split
      all_goals first | exact .inl ⟨rfl, rfl⟩ | exact .inr rfl | (exfalso; simp_all; done)
    try simp only [↓cqA, cqB] at c0
    refine qt (qa (qd (qb (zA rfl (qw rfl qi rfl rfl rfl rfl) (zA rfl (qw rfl qi rfl rfl rfl rfl) (qC (avs := [_, _]) false rfl rfl rfl (by decide) en_unify_args rfl rfl (args_ok a b ha hb (by omega)) rfl rfl (zM rfl rfl rfl ?_))))))); refine zA rfl (qY rfl rfl rfl) (zA rfl (qY rfl rfl rfl) ?_)
    refine zN rfl rfl rfl (zN rfl rfl rfl (qc (qa (qd (qd (qb (zM rfl rfl rfl ?_))))))); refine zA rfl (qU rfl rfl) (qc (qa (qu rfl (fun c3 => ?_) (fun c3 => ?_))))
    · try simp only [↓cqA, cqB] at c3
      refine qd (qb (zN rfl rfl rfl (zN rfl rfl rfl (qc (qa (qm (ql (?_))))))))
      -- leaf 0F3T
      refine ret0 (noL hL) (.inl rfl) (qf rfl (qf rfl (qh))) ?_ ?_
      · rfl
      refine ⟨?_, rfl⟩
      rw [fitR]
      repeat' split
      all_goals first | exact .inl ⟨rfl, rfl⟩ | exact .inr rfl | (exfalso; simp_all; done)
    try simp only [↓cqA, cqB] at c3
    have hab : qcV a b = true := by simp_all
    have haL : argsL a b = a.args.zip b.args := by rw [argsL, if_pos hab]
    have hpl := prDs_length (a.args.zip b.args)
    have hzl : (a.args.zip b.args).length ≤ 4 := by rw [List.length_zip]; omega
    rw [haL]
    refine qt (qa (qd (qd (qb (zM rfl rfl rfl (zA rfl (qy rfl qc6 rfl) (zM rfl rfl rfl ?_))))))); refine qc (qa (qB ?_))
    refine qV ((a.args.zip b.args).length) (fun k => k ≤ (a.args.zip b.args).length ∧ (fitL d l ((a.args.zip b.args).take k)).2 = 0) (fun k => ⟨[(0, bdA (fitL d l ((a.args.zip b.args).take k)).1), (52, prA (a.args.zip b.args)), (53, iv (prDs (a.args.zip b.args)).length), (54, iv (k : Int))], []⟩) (⟨by omega, by rw [List.take_zero, fitL]⟩) ?_ (fun k hk hp => ?_)
    · exact qI (SubT.cons (qbg rfl (by rw [List.take_zero, fitL])) (SubT.cons (zT rfl) (SubT.cons (zT rfl) (SubT.cons (zT rfl) (SubT.nil))))) (SubO.nil) rfl rfl (noL' (noL hL) _)
    have hbk : BOk (fitL d l ((a.args.zip b.args).take k)).1 := fitL_bok d _ l hl fun p hp => by
      have := List.of_mem_zip (List.mem_of_mem_take hp)
      exact ⟨Tm.wfs_mem ha.2.2.2.2 this.1, Tm.wfs_mem hb.2.2.2.2 this.2, may_arg hm this.2⟩
    refine qd (qb (zA rfl (qn rfl rfl rfl rfl) (qc (qa (qd (qu rfl (fun c4 => ?_) (fun c4 => ?_)))))))
    · try simp only [↓cqA, cqB] at c4
      obtain ⟨q, hq⟩ := qK (l := a.args.zip b.args) (k := k) (by omega)
      have hqm := List.of_mem_zip (List.mem_of_getElem? hq)
      have hsn := fitL_snoc d q ((a.args.zip b.args).take k) l hp.2
      rw [← qah hq] at hsn
      refine qt (qa (qd (qB (qd (qb (zA rfl (qo rfl qc6 rfl rfl (by omega) (prDs_get hq)) (zA rfl (qD rfl tf_unify_pair rfl rfl) ?_)))))))
      refine qz rfl rfl (by decide) (qaf 13 rfl zv_unify_pair rfl) rfl (qO rfl rfl rfl tf_unify_pair rfl rfl rfl rfl rfl rfl rfl rfl rfl (qc (qa (qd (qb (zM rfl rfl rfl (zA rfl (stp_indexAddr_arr rfl (show arB Tryz.prog 251 2 35 4 = true by kernel_rfl) rfl rfl (by decide) (by decide)) ?_))))))); refine zA rfl (qr rfl qi rfl rfl rfl rfl rfl) ?_
      refine zA rfl (stp_indexAddr_arr rfl (show arB Tryz.prog 251 2 35 4 = true by kernel_rfl) rfl rfl (by decide) (by decide)) (zA rfl (qr rfl qi rfl rfl rfl rfl rfl) (qC (avs := [_, _, _]) false rfl rfl rfl (by decide) en_unify_Fit rfl rfl (Fit_ok d (fitL d l ((a.args.zip b.args).take k)).1 q.1 q.2 (h q.1 hqm.1) (hs.arg hqm.1) (Tm.wfs_mem ha.2.2.2.2 hqm.1) hbk (Tm.wfs_mem hb.2.2.2.2 hqm.2) (may_arg hm hqm.2)) rfl rfl (zM rfl rfl rfl ?_)))
      refine zA rfl (qY rfl rfl rfl) (zA rfl (qY rfl rfl rfl) (zN rfl rfl rfl (zN rfl rfl rfl (qc (qa (qd (qd ?_))))))); refine qb ?_
      refine zM rfl rfl rfl (zA rfl (qn rfl rfl rfl rfl) (qc (qa (qu rfl (fun c5 => ?_) (fun c5 => ?_)))))
      · try simp only [↓cqA, cqB] at c5
        refine qd (qb (zM rfl rfl rfl (zN rfl rfl rfl (zN rfl rfl rfl (qc (qa (qm ?_))))))); refine ql (qL (ql (ql (qL (ql (?_))))))
        -- leaf 0F3F4T5T
        refine ret0 (noL hL) (.inl rfl) (qf rfl (qf rfl (qh))) ?_ ?_
        · rfl
        refine ⟨?_, rfl⟩
        have e : fitL d l (a.args.zip b.args) = ([], (fitR d (fitL d l ((a.args.zip b.args).take k)).1 q.1 q.2).2) := by
          rw [if_pos c5] at hsn
          have := qcr d ((a.args.zip b.args).take (k + 1)) ((a.args.zip b.args).drop (k + 1)) l (by rw [hsn]; exact c5)
          rw [List.take_append_drop] at this
          rw [this, hsn]
        rw [fitR, if_neg c0, if_pos hab, e]
        exact .inl ⟨rfl, rfl⟩
      try simp only [↓cqA, cqB] at c5
      rw [if_neg (by simp [c5])] at hsn
      refine qt (qa (qb (zM rfl rfl rfl (zN rfl rfl rfl (qc (qP (qa ?_))))))); refine qb (zA rfl (qM rfl rfl rfl (by omega)) (zM rfl rfl rfl (qc (qa ?_)))); refine ⟨?_, ?_, ?_⟩
      · skip
        omega
      · skip
        exact ⟨by omega, by rw [hsn]⟩
      exact qI (SubT.cons (qbg rfl (by rw [hsn])) (SubT.cons (zT rfl) (SubT.cons (zT rfl) (SubT.cons (zT rfl) (SubT.nil))))) (SubO.nil) rfl rfl (noL' (noL hL) _)
    try simp only [↓cqA, cqB] at c4
    refine qQ (qq (qq (q7 ?_))); refine qa (qd (qb (zM rfl rfl rfl (zN rfl rfl rfl (zN rfl rfl rfl (qc (qa ?_))))))); refine qm ?_
    -- leaf 0F3F4F
    refine ret0 (noL hL) (.inl rfl) (qf rfl (qf rfl (qh))) ?_ ?_
    · rfl
    refine ⟨?_, rfl⟩
    rw [List.take_of_length_le (by omega)] at hp ⊢
    rw [fitR, if_neg c0, if_pos hab]
    refine .inr ?_
    rw [hp.2]; rfl
end Go.Proofs.YtdecgkhdbfgldaaGreat

set_option linter.unusedVariables false
set_option linter.unusedSimpArgs false
namespace Go.Proofs.YtdecgkhdbfgldaaGreat
open Go
def Gr (t : Tm) : Prop := ∀ y, ¬ t.occ y
theorem Gr.arg {t u : Tm} (h : Gr t) (hu : u ∈ t.args) : Gr u := fun y hy => h y ((Tm.occ_iff _ _).2 (.inr ⟨u, hu, hy⟩))
theorem Gr.sub {t : Tm} (h : Gr t) (hs : t.shp) (g : ByteArray → Tm) : t.sub g = t := sub_id hs fun y hy => absurd hy (h y)
theorem groundB_iff {t : Tm} (hd : dle 5 t) : qbh t = true ↔ Gr t := by
  rw [qbh, List.isEmpty_iff]
  constructor
  · intro h y hy
    have := (note_occ y 5 t hd).2 hy
    rw [h] at this; cases this
  · intro h
    exact List.eq_nil_iff_forall_not_mem.2 fun y hy => h y ((note_occ y 5 t hd).1 hy)
structure GG (l : List Bd) : Prop where
  gb : GB l
  gr : ∀ b ∈ l, Gr b.t
theorem GG_nil : GG [] := ⟨GB_nil, fun b hb => by cases hb⟩
theorem GG.get {l : List Bd} (h : GG l) {y : ByteArray} (hy : hasB l y = true) : Gr (gB l y) ∧ mayT (gB l y) = true := by
  obtain ⟨b, hb, rfl⟩ := (qb7 l y).1 hy
  rw [gB_mem h.gb.ris hb]
  exact ⟨h.gr b hb, (h.gb.el b hb).2.2⟩
theorem stand_ground {l : List Bd} (h : GG l) {x : ByteArray} {t : Tm} (hx : varB x = true) (hxs : x.size ≤ 140737488351232) (hw : t.wf) (hm : mayT t = true) (hg : Gr t) (hl : hasB l x = false) (he : standE l x t = 0) :
    GG (qci l x t) ∧ (qci l x t).length = l.length + 1 ∧ (∀ y, hasB l y = true → gB (qci l x t) y = gB l y) ∧ gB (qci l x t) x = t ∧ ∀ y, hasB (qci l x t) y = (hasB l y || decide (x = y)) := by
  obtain ⟨h1, h2, h3, h4⟩ := stand_spec h.gb hx hxs hw hm hl (hg x) (fun y hy => absurd hy (hg y)) he
  have k1 : ∀ y, hasB l y = true → gB (qci l x t) y = gB l y := fun y hy => by
    rw [h3, (h.get hy).1.sub (qby (h.get hy).2)]
  have k2 : gB (qci l x t) x = t := by rw [h3, gB_none h.gb.ris hl, varT_sub, gB_one, if_pos rfl]
  refine ⟨⟨h1, fun b hb => ?_⟩, h2, k1, k2, h4⟩
  have e := gB_mem h1.ris hb
  have hh := h4 b.name
  rw [(qb7 _ _).2 ⟨b, hb, rfl⟩] at hh
  rw [← e]
  cases hc : hasB l b.name with
  | true => rw [k1 _ hc]; exact (h.get hc).1
  | false =>
    rw [hc] at hh
    have : x = b.name := by simpa using hh.symm
    rw [← this, k2]; exact hg
structure FitOk (l m : List Bd) (occ : ByteArray → Prop) : Prop where
  gg : GG m
  old : ∀ y, hasB l y = true → hasB m y = true ∧ gB m y = gB l y
  dom : ∀ y, hasB m y = true ↔ hasB l y = true ∨ occ y
theorem zip_map {f : Tm → Tm} : ∀ {x y : List Tm}, x.length = y.length → (∀ p ∈ x.zip y, f p.1 = p.2) → x.map f = y
  | [], [], _, _ => rfl
  | a :: x, b :: y, hl, h => by
    rw [List.map_cons, zip_map (x := x) (y := y) (by simpa using hl) fun p hp => h p (by simp [hp]), h (a, b) (by simp)]
  | [], _ :: _, hl, _ => by simp at hl
  | _ :: _, [], hl, _ => by simp at hl
mutual
theorem fit_spec : ∀ (d : Nat) (l : List Bd) (a b : Tm), GG l → a.shp → a.wf → mayT b = true → b.wf → Gr b → (fitR d l a b).2 = 0 → FitOk l (fitR d l a b).1 (fun y => a.occ y) ∧ a.sub (gB (fitR d l a b).1) = b
  | 0, l, a, b, _, _, _, _, _, _, h => by rw [fitR] at h; cases h
  | d + 1, l, a, b, hl, hs, hw, hm, hbw, hg, h => by
    rw [fitR] at h ⊢
    by_cases hk : a.kind = 1
    · rw [if_pos hk] at h ⊢
      have ev := hs.var hk
      have hocc : ∀ y, a.occ y ↔ a.name = y := fun y => by rw [ev.1]; exact varT_occ a.name y
      by_cases hh : hasB l a.name = true
      · rw [if_pos hh] at h ⊢
        by_cases hc : cmpT 5 (lookT l a.name) b = 0
        · rw [if_pos hc]
          obtain ⟨c, hc1, hc2⟩ := (qb7 l a.name).1 hh
          have e1 : lookT l a.name = c.t := by rw [← hc2, lookT_mem hl.gb.ris hc1]
          have e2 : gB l a.name = c.t := by rw [← hc2, gB_mem hl.gb.ris hc1]
          have e3 := (eqT_iff 5 _ _ (qao (hl.gb.el c hc1).2.2)).1 ((cmpT_zero 5 _ _ (qao (hl.gb.el c hc1).2.2)).1 (e1 ▸ hc))
          refine ⟨⟨hl, fun y hy => ⟨hy, rfl⟩, fun y => ⟨fun h => .inl h, ?_⟩⟩, ?_⟩
          · rintro (h | h)
            · exact h
            · rw [hocc] at h; rw [← h]; exact hh
          · rw [Tm.sub_eq, if_pos hk, e2, e3]
        · rw [if_neg hc] at h; cases h
      · rw [if_neg hh] at h ⊢
        have hno : hasB l a.name = false := by simpa using hh
        obtain ⟨g1, g2, g3, g4, g5⟩ := stand_ground hl ev.2 hw.2.1 hbw hm hg hno h
        refine ⟨⟨g1, fun y hy => ⟨by rw [g5, hy]; rfl, g3 y hy⟩, fun y => ?_⟩, ?_⟩
        · rw [g5, Bool.or_eq_true, decide_eq_true_eq, hocc]
        · rw [Tm.sub_eq, if_pos hk]; exact g4
    · rw [if_neg hk] at h ⊢
      by_cases hc : qcV a b = true
      · rw [if_pos hc] at h ⊢
        have hc2 := hc
        simp only [qcV, Bool.and_eq_true, decide_eq_true_eq] at hc2
        obtain ⟨f1, f2⟩ := fits_spec d (a.args.zip b.args) l hl (fun p hp => by
          have := List.of_mem_zip hp
          exact ⟨hs.arg this.1, Tm.wfs_mem hw.2.2.2.2 this.1, may_arg hm this.2, Tm.wfs_mem hbw.2.2.2.2 this.2, hg.arg this.2⟩) h
        refine ⟨⟨f1.gg, f1.old, fun y => ?_⟩, ?_⟩
        · rw [f1.dom, Tm.occ_iff]
          constructor
          · rintro (h | ⟨p, hp, h⟩)
            · exact .inl h
            · exact .inr (.inr ⟨p.1, (List.of_mem_zip hp).1, h⟩)
          · rintro (h | ⟨h, _⟩ | ⟨u, hu, h⟩)
            · exact .inl h
            · exact absurd h hk
            · obtain ⟨i, hi⟩ := List.getElem?_of_mem hu
              obtain ⟨v, hv⟩ := qK (l := b.args) (k := i) (by have := (List.getElem?_eq_some_iff.1 hi).1; omega)
              exact .inr ⟨(u, v), List.mem_of_getElem? (List.getElem?_zip_eq_some.2 ⟨hi, hv⟩), h⟩
        · rw [Tm.sub_eq, if_neg hk]
          rw [zip_map hc2.2 f2]
          cases a; cases b
          simp only at hc2 ⊢
          obtain ⟨⟨⟨rfl, rfl⟩, rfl⟩, _⟩ := hc2
          rfl
      · rw [if_neg hc] at h; cases h
theorem fits_spec : ∀ (d : Nat) (ps : List (Tm × Tm)) (l : List Bd), GG l → (∀ p ∈ ps, p.1.shp ∧ p.1.wf ∧ mayT p.2 = true ∧ p.2.wf ∧ Gr p.2) → (fitL d l ps).2 = 0 → FitOk l (fitL d l ps).1 (fun y => ∃ p ∈ ps, Tm.occ y p.1) ∧ ∀ p ∈ ps, p.1.sub (gB (fitL d l ps).1) = p.2
  | d, [], l, hl, _, _ => by
    rw [fitL]
    exact ⟨⟨hl, fun y hy => ⟨hy, rfl⟩, fun y => by simp⟩, fun p hp => by cases hp⟩
  | d, p :: ps, l, hl, hp, h => by
    rw [fitL] at h ⊢
    by_cases hc : (fitR d l p.1 p.2).2 = 0
    · rw [if_neg (by simp [hc])] at h ⊢
      obtain ⟨q1, q2, q3, q4, q5⟩ := hp p (by simp)
      obtain ⟨f1, f2⟩ := fit_spec d l p.1 p.2 hl q1 q2 q3 q4 q5 hc
      obtain ⟨g1, g2⟩ := fits_spec d ps _ f1.gg (fun q hq => hp q (by simp [hq])) h
      refine ⟨⟨g1.gg, fun y hy => ?_, fun y => ?_⟩, fun q hq => ?_⟩
      · obtain ⟨a1, a2⟩ := f1.old y hy
        obtain ⟨b1, b2⟩ := g1.old y a1
        exact ⟨b1, b2.trans a2⟩
      · rw [g1.dom, f1.dom]
        simp only [List.mem_cons, exists_eq_or_imp]
        exact or_assoc
      · rcases List.mem_cons.1 hq with rfl | hq
        · refine Eq.trans (sub_congr q.1 fun y hy => ?_) f2
          exact (g1.old y ((f1.dom y).2 (.inr hy))).2
        · exact g2 q hq
    · rw [if_pos hc] at h; exact absurd h hc
end
structure MI (m l : List Bd) (ps : List (Tm × Tm)) : Prop where
  gb : GB l
  le : ∀ y, hasB l y = true → hasB m y = true ∧ gB l y = gB m y
  ps : ∀ p ∈ ps, PK p ∧ Gr p.2 ∧ mayT p.2 = true ∧ p.1.sub (gB m) = p.2 ∧ ∀ y, p.1.occ y → hasB m y = true
theorem MI.gg {m l : List Bd} {ps : List (Tm × Tm)} (hm : GG m) (h : MI m l ps) : GG l := ⟨h.gb, fun b hb => by
  have hh := (qb7 l b.name).2 ⟨b, hb, rfl⟩
  obtain ⟨h1, h2⟩ := h.le _ hh
  rw [gB_mem h.gb.ris hb] at h2
  rw [h2]; exact (hm.get h1).1⟩
theorem MI.occ {m l : List Bd} {ps : List (Tm × Tm)} (hm : GG m) (h : MI m l ps) {p : Tm × Tm} (hp : p ∈ ps) {z : ByteArray} (hz : (p.1.sub (gB l)).occ z) : hasB m z = true ∧ hasB l z = false := by
  obtain ⟨h1, h2, h3, h4, h5⟩ := h.ps p hp
  refine ⟨?_, ap_occ h.gb h1.1.1 hz⟩
  obtain ⟨y, hy, hz⟩ := (occ_sub _ z p.1 h1.1.1).1 hz
  cases hc : hasB l y with
  | true => exact absurd hz (((h.gg hm).get hc).1 z)
  | false => rw [gB_none h.gb.ris hc, varT_occ] at hz; rw [← hz]; exact h5 y hy
end Go.Proofs.YtdecgkhdbfgldaaGreat

set_option linter.unusedVariables false
set_option linter.unusedSimpArgs false
set_option maxRecDepth 8000
namespace Go.Proofs.YtdecgkhdbfgldaaGreat
open Go
theorem CopyTerms_of (l : List Tm) (hl : l.length * 56 ≤ 140737488351232) (hC : ∀ u ∈ l, PF 95 [tmA false u] (.agg (lift true (tmD u)))) : AC Tryz.prog 159 [.dat false 4 (tmDs l)] [] (fun r O => r = .row 3 ∧ O = [(3, .rowd 35 4 true (tmDs l))]) := by
  have hlen := qaa l
  refine qG Tryz.func159 rfl Tryz.ntmps159 (Nat.le_of_ble_eq_true rfl) fun c hL hQ hDD => (qd (qb (zN rfl rfl rfl (qc (qa (qd (qb ?_))))))); refine zN rfl rfl rfl (qc (qa ?_))
  refine qd (qd (qb (zN rfl rfl rfl (qc (qa (qB (qV (l.length) (fun k => k ≤ l.length) (fun k => ⟨[(0, .dat false 4 (tmDs l)), (3, .row 3), (4, iv (k : Int))], [(3, .rowd 35 4 true (tmDs (l.take k)))]⟩) (by omega) ?_ (fun k hk hp => ?_))))))))
  · exact Sub.trans (qaL (t := 3) (l := 3) 35 4 true rfl rfl) (qI (SubT.cons (zT rfl) (SubT.cons (zT rfl) (SubT.cons (zT rfl) (SubT.nil)))) (SubO.cons (qag rfl (by rfl)) (SubO.nil)) rfl rfl (noL' (noL hL) _))
  have hl2 : (tmDs (l.take k)).length ≤ l.length := by rw [qaa, List.length_take]; omega
  refine qd (qd (qb (zM rfl rfl rfl (zM rfl rfl rfl (zA rfl (qy rfl qv rfl) (zA rfl (qn rfl rfl rfl rfl) (qc ?_))))))); refine qa (qu rfl (fun c0 => ?_) (fun c0 => ?_))
  · try simp only [↓cqA, cqB] at c0
    obtain ⟨u, hu⟩ := qK (l := l) (k := k) (by omega)
    have hum := List.mem_of_getElem? hu
    refine qt (qa (qd (qB (qb (zM rfl rfl rfl (zM rfl rfl rfl (zM rfl rfl rfl ?_))))))); refine zA rfl (qo rfl qv rfl rfl (by omega) (qax hu)) (zA rfl (qD rfl qi rfl rfl) ?_)
    refine qC (avs := [_]) true rfl rfl rfl (by decide) qa5 rfl rfl (hC u hum) rfl rfl (qz rfl rfl (by decide) (qS 17 rfl qv q6 rfl rfl (by decide) (by decide) (by decide) rfl rfl rfl) rfl (qbt rfl rfl (by decide) (qaA 18 ta_S_api_Term rfl rfl rfl rfl rfl rfl rfl rfl (noL hL _) (by omega) rfl) rfl ?_))
    refine zN rfl rfl rfl (qc (qP (qa (qb (zM rfl rfl rfl (zA rfl (qM rfl rfl rfl (by omega)) (zN rfl rfl rfl ?_))))))); refine qc (qa ?_); refine ⟨?_, ?_, ?_⟩
    · skip
      omega
    · skip
      omega
    exact Sub.trans (qaE 18 3 (noL hL _) (noL hL _)) (qI (SubT.cons (zT rfl) (SubT.cons (zT rfl) (SubT.cons (zT rfl) (SubT.nil)))) (SubO.cons (qag rfl (by rw [qah hu, show tmDs (l.take k ++ [u]) = tmDs (l.take k) ++ [tmD u] by rw [qb3, qb3, List.map_append]; rfl]; rfl)) (SubO.nil)) rfl rfl (noL' (noL hL) _))
  try simp only [↓cqA, cqB] at c0
  refine qQ (qq (qq (q7 ?_))); refine qa (qd (qb (zM rfl rfl rfl (zN rfl rfl rfl (qc (qa (qm ?_)))))))
  -- leaf 0F
  change retQ _ _ _ _ _ _ _
  refine retO (O' := [(3, _)]) (.inl rfl) (qf rfl qh) (SubO.cons rfl SubO.nil) ?_ ?_ (noL' (noL hL) _) ?_
  · rfl
  · rfl
  exact ⟨rfl, by rw [List.take_of_length_le (by omega)]⟩
theorem CopyTerm_ok : ∀ (d : Nat) (t : Tm), dle d t → t.wf → PF 95 [tmA false t] (.agg (lift true (tmD t)))
  | 0, t, h, _ => h.elim
  | d + 1, t, h, ht => by
    have key := AC_rnE 3 77 (CopyTerms_of t.args ht.2.2.2.1 (fun u hu => CopyTerm_ok d u (h u hu) (Tm.wfs_mem ht.2.2.2.2 hu)))
    refine qG Tryz.func95 rfl Tryz.ntmps95 (Nat.le_of_ble_eq_true rfl) fun c hL hQ hDD => (qd (qb (qz rfl rfl (by decide) (qab 1 rfl rfl rfl) rfl (qz rfl rfl (by decide) (qaf 2 rfl q6 rfl) rfl (qc (qa (qd ?_))))))); refine qb (zA rfl (qw rfl qi rfl rfl rfl rfl) ?_)
    refine qz rfl rfl (by decide) (qaf 3 rfl q6 rfl) rfl (qO rfl rfl rfl qi rfl rfl rfl rfl rfl rfl rfl rfl rfl (qc (qa (qd (qb (zA rfl (qg rfl qJ rfl) (zA rfl (qr rfl qF rfl rfl rfl rfl rfl) ?_))))))); refine qbt rfl rfl (by decide) (qbC (avs := [_]) true rfl qcO rfl rfl (key) (fun _ => rfl) rfl) rfl ?_
    refine zA rfl (qg rfl qJ rfl) (qO rfl rfl rfl qF rfl rfl rfl rfl rfl rfl rfl rfl rfl (qc (qa (qd (qbb (qam (l := 77) rfl (by decide) (noL hL _) rfl rfl) (qb (zA rfl (qw rfl qi rfl rfl rfl rfl) ?_))))))); refine qO rfl rfl rfl qi rfl rfl rfl rfl rfl rfl rfl rfl rfl (qc (qa (qm ?_)))
    -- leaf 
    refine ret0 (noL hL) (.inl rfl) (qaU qi rfl rfl rfl (qh)) ?_ ?_
    · rfl
    exact ⟨rfl, rfl⟩
theorem CopyBind_ok (d : Nat) (b : Bd) (hd : dle d b.t) (hb : b.wf) : PF 81 [.agg (lift false (bdD b))] (.agg (lift true (bdD b))) := by
  have hbt := hb.2
  refine qG Tryz.func81 rfl Tryz.ntmps81 (Nat.le_of_ble_eq_true rfl) fun c hL hQ hDD => (qd (qb (qz rfl rfl (by decide) (qab 1 rfl rfl rfl) rfl (qz rfl rfl (by decide) (qaf 2 rfl qaD rfl) rfl (qc (qa (qd ?_))))))); refine qb (zA rfl (qw rfl qav rfl rfl rfl rfl) ?_)
  refine qz rfl rfl (by decide) (qaf 3 rfl qaD rfl) rfl (qO rfl rfl rfl qav rfl rfl rfl rfl rfl rfl rfl rfl rfl (qc (qa (qd (qb (zA rfl (qg rfl qan rfl) (zA rfl (qr rfl qi rfl rfl rfl rfl rfl) ?_))))))); refine qC (avs := [_]) true rfl rfl rfl (by decide) qa5 rfl rfl (CopyTerm_ok d b.t hd hbt) rfl rfl ?_
  refine zA rfl (qg rfl qan rfl) (qO rfl rfl rfl qi rfl rfl rfl rfl rfl rfl rfl rfl rfl (qc (qa (qd (qb (zA rfl (qw rfl qav rfl rfl rfl rfl) (qO rfl rfl rfl qav rfl rfl rfl rfl rfl rfl rfl rfl rfl ?_))))))); refine qc (qa (qm ?_))
  -- leaf 
  refine ret0 (noL hL) (.inl rfl) (qaU qav rfl rfl rfl (qh)) ?_ ?_
  · rfl
  exact ⟨rfl, rfl⟩
theorem qcA (d : Nat) (l : List Bd) (hl : l.length ≤ 1000000000) (hd : ∀ b ∈ l, dle d b.t) (hw : ∀ b ∈ l, b.wf) : AC Tryz.prog 17 [bdA l] [] (fun r O => r = .row 3 ∧ O = [(3, .rowd 40 5 true (bdDs l))]) := by
  have hlen := qak l
  refine qG Tryz.func17 rfl Tryz.ntmps17 (Nat.le_of_ble_eq_true rfl) fun c hL hQ hDD => (qd (qb (zN rfl rfl rfl (qc (qa (qd (qb ?_))))))); refine zN rfl rfl rfl (qc (qa ?_))
  refine qd (qd (qb (zN rfl rfl rfl (qc (qa (qB (qV (l.length) (fun k => k ≤ l.length) (fun k => ⟨[(0, bdA l), (3, .row 3), (4, iv (k : Int))], [(3, .rowd 40 5 true (bdDs (l.take k)))]⟩) (by omega) ?_ (fun k hk hp => ?_))))))))
  · exact Sub.trans (qaL (t := 3) (l := 3) 40 5 true rfl rfl) (qI (SubT.cons (zT rfl) (SubT.cons (zT rfl) (SubT.cons (zT rfl) (SubT.nil)))) (SubO.cons (qag rfl (by rfl)) (SubO.nil)) rfl rfl (noL' (noL hL) _))
  have hl2 : (bdDs (l.take k)).length ≤ l.length := by rw [qak, List.length_take]; omega
  refine qd (qd (qb (zM rfl rfl rfl (zM rfl rfl rfl (zA rfl (qy rfl qp rfl) (zA rfl (qn rfl rfl rfl rfl) (qc ?_))))))); refine qa (qu rfl (fun c0 => ?_) (fun c0 => ?_))
  · try simp only [↓cqA, cqB] at c0
    obtain ⟨u, hu⟩ := qK (l := l) (k := k) (by omega)
    have hum := List.mem_of_getElem? hu
    refine qt (qa (qd (qB (qb (zM rfl rfl rfl (zM rfl rfl rfl (zM rfl rfl rfl ?_))))))); refine zA rfl (qo rfl qp rfl rfl (by omega) (qaI hu)) (zA rfl (qD rfl qav rfl rfl) ?_)
    refine qC (avs := [_]) true rfl rfl rfl (by decide) qb0 rfl rfl (CopyBind_ok d u (hd u hum) (hw u hum)) rfl rfl (qz rfl rfl (by decide) (qS 17 rfl qp qaD rfl rfl (by decide) (by decide) (by decide) rfl rfl rfl) rfl (qbt rfl rfl (by decide) (qaA 18 qaW rfl rfl rfl rfl rfl rfl rfl rfl (noL hL _) (by omega) rfl) rfl ?_))
    refine zN rfl rfl rfl (qc (qP (qa (qb (zM rfl rfl rfl (zA rfl (qM rfl rfl rfl (by omega)) (zN rfl rfl rfl ?_))))))); refine qc (qa ?_); refine ⟨?_, ?_, ?_⟩
    · skip
      omega
    · skip
      omega
    exact Sub.trans (qaE 18 3 (noL hL _) (noL hL _)) (qI (SubT.cons (zT rfl) (SubT.cons (zT rfl) (SubT.cons (zT rfl) (SubT.nil)))) (SubO.cons (qag rfl (by rw [qah hu, bdDs, bdDs, List.map_append]; rfl)) (SubO.nil)) rfl rfl (noL' (noL hL) _))
  try simp only [↓cqA, cqB] at c0
  refine qQ (qq (qq (q7 ?_))); refine qa (qd (qb (zM rfl rfl rfl (zN rfl rfl rfl (qc (qa (qm ?_)))))))
  -- leaf 0F
  change retQ _ _ _ _ _ _ _
  refine retO (O' := [(3, _)]) (.inl rfl) (qf rfl qh) (SubO.cons rfl SubO.nil) ?_ ?_ (noL' (noL hL) _) ?_
  · rfl
  · rfl
  exact ⟨rfl, by rw [List.take_of_length_le (by omega)]⟩
def atB (s : ByteArray) : List Bd → Int
  | [] => -1
  | b :: l => if b.name = s then 0 else if atB s l < 0 then -1 else atB s l + 1
theorem atB_some (s : ByteArray) : ∀ (l : List Bd) (m : Nat) (x : Bd), l[m]? = some x → x.name = s → (∀ (j : Nat) (y : Bd), j < m → l[j]? = some y → y.name ≠ s) → atB s l = m
  | [], m, x, h, _, _ => by simp at h
  | k :: l, 0, x, h, hx, _ => by
    simp only [List.getElem?_cons_zero, Option.some.injEq] at h; subst h
    rw [atB, if_pos hx]; rfl
  | k :: l, m + 1, x, h, hx, hj => by
    have ih := atB_some s l m x (by simpa using h) hx (fun j y hjm hy => hj (j + 1) y (by omega) (by simpa using hy))
    rw [atB, if_neg (hj 0 k (by omega) (by simp)), ih, if_neg (by omega)]; push_cast; rfl
theorem atB_none (s : ByteArray) : ∀ (l : List Bd), (∀ (j : Nat) (y : Bd), l[j]? = some y → y.name ≠ s) → atB s l = -1
  | [], _ => rfl
  | k :: l, h => by
    have ih := atB_none s l (fun j y hy => h (j + 1) y (by simpa using hy))
    rw [atB, if_neg (h 0 k (by simp)), ih, if_pos (by omega)]
theorem atB_cases (s : ByteArray) : ∀ l : List Bd, (hasB l s = false ∧ atB s l = -1) ∨ hasB l s = true ∧ ∃ (i : Nat) (x : Bd), atB s l = i ∧ l[i]? = some x ∧ x.name = s ∧ lookB l s = some x.t
  | [] => .inl ⟨rfl, rfl⟩
  | k :: l => by
    by_cases h : k.name = s
    · exact .inr ⟨by simp [hasB, h], 0, k, by rw [atB, if_pos h]; rfl, rfl, h, by simp [lookB, List.find?_cons, h]⟩
    · rcases atB_cases s l with ⟨h1, h2⟩ | ⟨h1, i, x, h2, h3, h4, h5⟩
      · exact .inl ⟨by simp only [hasB, List.any_cons, h, decide_false, Bool.false_or]; exact h1, by rw [atB, if_neg h, h2]; rfl⟩
      · refine .inr ⟨by simp only [hasB, List.any_cons, h, decide_false, Bool.false_or]; exact h1, i + 1, x, by rw [atB, if_neg h, h2, if_neg (by omega)]; push_cast; rfl, by simpa using h3, h4, ?_⟩
        simp only [lookB, List.find?_cons, h, decide_false]
        exact h5
theorem atB_has (s : ByteArray) (l : List Bd) : (0 ≤ atB s l) ↔ hasB l s = true := by
  rcases atB_cases s l with ⟨h1, h2⟩ | ⟨h1, i, x, h2, _⟩
  · rw [h1, h2]; simp
  · rw [h1, h2]; simp
theorem At1_ok' (l : List Bd) (s : ByteArray) (hl : l.length ≤ 1000000000) : PF 22 [bdA l, sv s] (iv (atB s l)) := by
  have hlen := qak l
  refine qG Tryz.func22 rfl Tryz.ntmps22 (Nat.le_of_ble_eq_true rfl) fun c hL hQ hDD => (qd (qb (zN rfl rfl rfl (qc (qa (qd (qd ?_))))))); refine qb (zN rfl rfl rfl (qc ?_))
  refine qa (qB (qV (l.length) (fun k => k ≤ l.length ∧ ∀ (j : Nat) (y : Bd), j < k → l[j]? = some y → y.name ≠ s) (fun k => ⟨[(0, bdA l), (1, sv s), (5, iv (k : Int))], []⟩) (⟨by omega, fun j y hj => absurd hj (by omega)⟩) ?_ (fun k hk hp => ?_)))
  · exact qI (SubT.cons (zT rfl) (SubT.cons (zT rfl) (SubT.cons (zT rfl) (SubT.nil)))) (SubO.nil) rfl rfl (noL' (noL hL) _)
  refine qd (qd (qb (zM rfl rfl rfl (zM rfl rfl rfl (zA rfl (qy rfl qp rfl) (zA rfl (qn rfl rfl rfl rfl) (qc ?_))))))); refine qa (qu rfl (fun c0 => ?_) (fun c0 => ?_))
  · try simp only [↓cqA, cqB] at c0
    obtain ⟨u, hu⟩ := qK (l := l) (k := k) (by omega)
    refine qt (qa (qd (qB (qd (qb (zM rfl rfl rfl (zM rfl rfl rfl ?_))))))); refine zA rfl (qo rfl qp rfl rfl (by omega) (qaI hu)) (zA rfl (qZ rfl qai rfl) (zA rfl (qR rfl qT rfl) ?_))
    refine zM rfl rfl rfl (zA rfl (qbn rfl rfl rfl rfl) (qc (qa (qu rfl (fun c1 => ?_) (fun c1 => ?_)))))
    · try simp only [↓cqA, cqB] at c1
      refine qd (qb (zM rfl rfl rfl (zN rfl rfl rfl (qc (qa (qm (qL (ql (ql (qL (ql (?_))))))))))))
      -- leaf 0T1T
      refine ret0 (noL hL) (.inl rfl) (qf rfl (qh)) ?_ ?_
      · rfl
      refine ⟨qbr ?_, rfl⟩
      exact (atB_some s l k u hu c1 hp.2).symm
    try simp only [↓cqA, cqB] at c1
    refine qt (qP (qa (qb (zM rfl rfl rfl (zA rfl (qM rfl rfl rfl (by omega)) (zN rfl rfl rfl (qc ?_))))))); refine qa ?_; refine ⟨?_, ?_, ?_⟩
    · skip
      omega
    · skip
      refine ⟨by omega, fun j y hj hy => ?_⟩
      by_cases hjk : j < k
      · exact hp.2 j y hjk hy
      · rw [show j = k by omega, hu] at hy; cases hy; exact c1
    exact qI (SubT.cons (zT rfl) (SubT.cons (zT rfl) (SubT.cons (zT rfl) (SubT.nil)))) (SubO.nil) rfl rfl (noL' (noL hL) _)
  try simp only [↓cqA, cqB] at c0
  refine qQ (qq (qq (q7 ?_))); refine qa (qd (qb (zN rfl rfl rfl (qc (qa (qm ?_))))))
  -- leaf 0F
  refine ret0 (noL hL) (.inl rfl) (qf rfl (qh)) ?_ ?_
  · rfl
  refine ⟨qbr ?_, rfl⟩
  exact (atB_none s l fun j y hy => hp.2 j y (by have := (List.getElem?_eq_some_iff.1 hy).1; omega) hy).symm
def fixB (l : List Bd) : Bool := l.all fun b => qbh b.t
theorem rFixed_ok (l : List Bd) (hl : l.length ≤ 1000000000) (hw : ∀ b ∈ l, b.wf) (hm : ∀ b ∈ l, mayT b.t = true) : PF 34 [bdA l] (bv (fixB l)) := by
  have hlen := qak l
  refine qG Tryz.func34 rfl Tryz.ntmps34 (Nat.le_of_ble_eq_true rfl) fun c hL hQ hDD => (qd (qb (zN rfl rfl rfl (qc (qa (qd (qd ?_))))))); refine qb (zN rfl rfl rfl (qc ?_))
  refine qa (qB (qV (l.length) (fun k => k ≤ l.length ∧ ∀ (j : Nat) (y : Bd), j < k → l[j]? = some y → qbh y.t = true) (fun k => ⟨[(0, bdA l), (3, iv (k : Int))], []⟩) (⟨by omega, fun j y hj => absurd hj (by omega)⟩) ?_ (fun k hk hp => ?_)))
  · exact qI (SubT.cons (zT rfl) (SubT.cons (zT rfl) (SubT.nil))) (SubO.nil) rfl rfl (noL' (noL hL) _)
  refine qd (qd (qb (zM rfl rfl rfl (zM rfl rfl rfl (zA rfl (qy rfl qp rfl) (zA rfl (qn rfl rfl rfl rfl) (qc ?_))))))); refine qa (qu rfl (fun c0 => ?_) (fun c0 => ?_))
  · try simp only [↓cqA, cqB] at c0
    obtain ⟨u, hu⟩ := qK (l := l) (k := k) (by omega)
    have hum := List.mem_of_getElem? hu
    refine qt (qa (qd (qB (qd (qb (zM rfl rfl rfl (zM rfl rfl rfl ?_))))))); refine zA rfl (qo rfl qp rfl rfl (by omega) (qaI hu)) (zA rfl (qZ rfl qan rfl) (zA rfl (qD rfl qi rfl rfl) ?_))
    refine qC (avs := [_]) true rfl rfl rfl (by decide) qa3 rfl rfl (rGround_ok u.t (hw u hum).2 (hm u hum)) rfl rfl (zA rfl (qU rfl rfl) (qc (qa (qu rfl (fun c1 => ?_) (fun c1 => ?_)))))
    · try simp only [↓cqA, cqB] at c1
      refine qd (qb (zN rfl rfl rfl (qc (qa (qm (qL (ql (ql (qL (ql (?_)))))))))))
      -- leaf 0T1T
      refine ret0 (noL hL) (.inl rfl) (qf rfl (qh)) ?_ ?_
      · rfl
      refine ⟨qW ?_, rfl⟩
      exact (List.all_eq_false.2 ⟨u, hum, by rw [c1]; simp⟩).symm
    try simp only [↓cqA, cqB] at c1
    refine qt (qP (qa (qb (zM rfl rfl rfl (zA rfl (qM rfl rfl rfl (by omega)) (zN rfl rfl rfl (qc ?_))))))); refine qa ?_; refine ⟨?_, ?_, ?_⟩
    · skip
      omega
    · skip
      refine ⟨by omega, fun j y hj hy => ?_⟩
      by_cases hjk : j < k
      · exact hp.2 j y hjk hy
      · rw [show j = k by omega, hu] at hy; cases hy; exact c1
    exact qI (SubT.cons (zT rfl) (SubT.cons (zT rfl) (SubT.nil))) (SubO.nil) rfl rfl (noL' (noL hL) _)
  try simp only [↓cqA, cqB] at c0
  refine qQ (qq (qq (q7 ?_))); refine qa (qd (qb (zN rfl rfl rfl (qc (qa (qm ?_))))))
  -- leaf 0F
  refine ret0 (noL hL) (.inl rfl) (qf rfl (qh)) ?_ ?_
  · rfl
  refine ⟨qW ?_, rfl⟩; refine (List.all_eq_true.2 fun x hx => ?_).symm
  obtain ⟨j, hj⟩ := List.getElem?_of_mem hx
  exact hp.2 j x (by have := (List.getElem?_eq_some_iff.1 hj).1; omega) hj
theorem varsR_occ {t : Tm} (hm : mayT t = true) (y : ByteArray) : y ∈ varsR 5 t ↔ t.occ y := (varsR_note 5 y t (mayS_vok 5 t 24 hm)).trans (note_occ y 5 t (qao hm))
theorem rBinds_ok (l : List Bd) (hl : l.length ≤ 1000000000) (hw : ∀ b ∈ l, b.wf) : PF 18 [bdA l] (bv (mayB l)) := by
  have hlen := qak l
  refine qG Tryz.func18 rfl Tryz.ntmps18 (Nat.le_of_ble_eq_true rfl) fun c hL hQ hDD => (qd (qb (zN rfl rfl rfl (qc (qa (qd (qd ?_))))))); refine qb (zM rfl rfl rfl (zA rfl (qy rfl qp rfl) ?_))
  refine zA rfl (qn rfl rfl rfl rfl) (qc (qa (qu rfl (fun c0 => ?_) (fun c0 => ?_))))
  · try simp only [↓cqA, cqB] at c0
    refine qd (qb (zN rfl rfl rfl (qc (qa (qm (ql (?_)))))))
    -- leaf 0T
    refine ret0 (noL hL) (.inl rfl) (qf rfl (qh)) ?_ ?_
    · rfl
    refine ⟨qW ?_, rfl⟩
    symm
    first
      | (rw [mayB, decide_eq_false (show ¬ l.length ≤ 16 by omega)]; rfl)
      | (have hst : qc1 l k = false := by
           rw [qbQ hu]
           first | (rw [m21]; simp; done) | (rw [c2]; simp; done) | (simp [ha, m38]; omega)
         have : (List.range l.length).all (qc1 l) = false := List.all_eq_false.2 ⟨k, by simp; omega, by simp [hst]⟩
         rw [mayB, this]; simp; done)
      | (have h1 := (atB_has y l).1 (by omega)
         have h2 := (varsR_occ hvt y).1 (List.mem_of_getElem? hy)
         have : (noteL 5 (l.map Bd.t)).any (hasB l) = true := List.any_eq_true.2 ⟨y, (noteL5 hdl y).2 ⟨v.t, List.mem_map.2 ⟨v, hvm, rfl⟩, h2⟩, h1⟩
         rw [mayB, this]; simp; done)
      | trace_state
  try simp only [↓cqA, cqB] at c0
  refine qt (qa (qd (qd (qb (zN rfl rfl rfl (qc (qa ?_))))))); refine qB (qV (l.length) (fun k => k ≤ l.length ∧ ∀ j, j < k → qc1 l j = true) (fun k => ⟨[(0, bdA l), (3, iv (k : Int))], []⟩) (⟨by omega, fun j hj => absurd hj (by omega)⟩) ?_ (fun k hk hp => ?_))
  · exact qI (SubT.cons (zT rfl) (SubT.cons (zT rfl) (SubT.nil))) (SubO.nil) rfl rfl (noL' (noL hL) _)
  refine qd (qd (qb (zM rfl rfl rfl (zM rfl rfl rfl (zA rfl (qy rfl qp rfl) (zA rfl (qn rfl rfl rfl rfl) (qc ?_))))))); refine qa (qu rfl (fun c1 => ?_) (fun c1 => ?_))
  · try simp only [↓cqA, cqB] at c1
    obtain ⟨u, hu⟩ := qK (l := l) (k := k) (by omega)
    have huw := hw u (List.mem_of_getElem? hu)
    have hut := huw.2
    refine qt (qa (qd (qB (qd ?_))))
    rcases Bool.eq_false_or_eq_true (varB u.name) with l21 | l21
    · have m21 := l21
      try simp only [↓cqA, cqB] at m21
      rcases Bool.eq_false_or_eq_true (decide ((k : Int) > 0)) with l25 | l25
      · have m25 := l25
        try simp only [↓cqA, cqB] at m25
        obtain ⟨a, ha⟩ := qK (l := l) (k := k - 1) (by omega)
        have ha2 : l[((k : Int) - 1).toNat]? = some a := by rw [show ((k : Int) - 1).toNat = k - 1 by omega]; exact ha
        rcases Bool.eq_false_or_eq_true (!(ltS a.name u.name)) with l38 | l38
        · have m38 := l38
          try simp only [↓cqA, cqB] at m38
          refine q8 28 qbd rfl rfl rfl rfl (qe rfl (by decide) (.run rfl (qk (.inl rfl) rfl)) (qe rfl (by decide) (.run rfl (qk (.inl rfl) rfl)) (qe rfl (by decide) (.run rfl (qo rfl qp rfl rfl (by omega) (qaI hu))) (qe rfl (by decide) (.run rfl (qZ rfl qai rfl)) (qe rfl (by decide) (.run rfl (qR rfl qT rfl)) ?_)))))
          refine qe rfl (by decide) (.run rfl (qN (avs := [_]) true rfl qbL rfl rfl (by have hh := rVar_ok u.name; rw [l21] at hh; exact hh) (fun _ => rfl) rfl)) ?_; refine qe rfl (by decide) (.run rfl (qU rfl rfl)) ?_; refine qe rfl (by decide) (.run rfl (qk (.inl rfl) rfl)) ?_
          refine qe rfl (by decide) (.want rfl rfl rfl (by decide) (qk (.inl rfl) rfl)) (qe rfl (by decide) (.want rfl rfl rfl (by decide) (qn (r := .bool true) rfl rfl rfl (congrArg (fun b => some (Value.bool b)) l25))) (qe rfl (by decide) (.want rfl rfl rfl (by decide) (qk (.inl rfl) rfl)) ?_))
          refine qe rfl (by decide) (.want rfl rfl rfl (by decide) (qk (.inl rfl) rfl)) (qe rfl (by decide) (.want rfl rfl rfl (by decide) (qk (.inl rfl) rfl)) (qe rfl (by decide) (.want rfl rfl rfl (by decide) (stp_sub rfl rfl rfl (by omega))) (qe rfl (by decide) (.want rfl rfl rfl (by decide) (qo rfl qp rfl rfl (by omega) (qaI ha2))) (qe rfl (by decide) (.want rfl rfl rfl (by decide) (qZ rfl qai rfl)) ?_))))
          refine qe rfl (by decide) (.want rfl rfl rfl (by decide) (qR rfl qT rfl)) (qe rfl (by decide) (.want rfl rfl rfl (by decide) (qk (.inl rfl) rfl)) (qe rfl (by decide) (.want rfl rfl rfl (by decide) (qk (.inl rfl) rfl)) (qe rfl (by decide) (.want rfl rfl rfl (by decide) (qo rfl qp rfl rfl (by omega) (qaI hu))) (qe rfl (by decide) (.want rfl rfl rfl (by decide) (qZ rfl qai rfl)) ?_))))
          refine qe rfl (by decide) (.want rfl rfl rfl (by decide) (qR rfl qT rfl)) (qe rfl (by decide) (.want rfl rfl rfl (by decide) (qbn (r := .bool true) rfl rfl rfl (congrArg (fun b => some (Value.bool b)) l38))) (qe rfl (by decide) (.want rfl rfl rfl (by decide) (qj rfl rfl rfl)) (qe rfl (by decide) (.run rfl (qj rfl rfl rfl)) (qe rfl (by decide) (.run rfl (qk (.inl rfl) rfl)) ?_))))
          refine qe rfl (by decide) (.skip rfl rfl rfl (by decide) (by decide)) (qe rfl (by decide) (.skip rfl rfl rfl (by decide) (by decide)) (qau ⟨rfl, rfl, ?_⟩)); refine zS rfl rfl rfl rfl (zS rfl rfl rfl rfl (zS rfl rfl rfl rfl ?_))
          refine zS rfl rfl rfl rfl (zS rfl rfl rfl rfl (zA rfl (qj rfl rfl rfl) (qc (qa (qaj rfl (qd (qb ?_))))))); refine zN rfl rfl rfl (qc (qa (qm (qL (ql (ql (qL (ql (?_)))))))))
          -- leaf 0F1Tl21Tl25Tl38T
          refine ret0 (noL hL) (.inl rfl) (qf rfl (qh)) ?_ ?_
          · rfl
          refine ⟨qW ?_, rfl⟩
          symm
          first
            | (rw [mayB, decide_eq_false (show ¬ l.length ≤ 16 by omega)]; rfl)
            | (have hst : qc1 l k = false := by
                 rw [qbQ hu]
                 first | (rw [m21]; simp; done) | (rw [c2]; simp; done) | (simp [ha, m38]; omega)
               have : (List.range l.length).all (qc1 l) = false := List.all_eq_false.2 ⟨k, by simp; omega, by simp [hst]⟩
               rw [mayB, this]; simp; done)
            | (have h1 := (atB_has y l).1 (by omega)
               have h2 := (varsR_occ hvt y).1 (List.mem_of_getElem? hy)
               have : (noteL 5 (l.map Bd.t)).any (hasB l) = true := List.any_eq_true.2 ⟨y, (noteL5 hdl y).2 ⟨v.t, List.mem_map.2 ⟨v, hvm, rfl⟩, h2⟩, h1⟩
               rw [mayB, this]; simp; done)
            | trace_state
        have m38 := l38
        try simp only [↓cqA, cqB] at m38
        refine q8 28 qbd rfl rfl rfl rfl (qe rfl (by decide) (.run rfl (qk (.inl rfl) rfl)) (qe rfl (by decide) (.run rfl (qk (.inl rfl) rfl)) (qe rfl (by decide) (.run rfl (qo rfl qp rfl rfl (by omega) (qaI hu))) (qe rfl (by decide) (.run rfl (qZ rfl qai rfl)) (qe rfl (by decide) (.run rfl (qR rfl qT rfl)) ?_)))))
        refine qe rfl (by decide) (.run rfl (qN (avs := [_]) true rfl qbL rfl rfl (by have hh := rVar_ok u.name; rw [l21] at hh; exact hh) (fun _ => rfl) rfl)) ?_; refine qe rfl (by decide) (.run rfl (qU rfl rfl)) ?_; refine qe rfl (by decide) (.run rfl (qk (.inl rfl) rfl)) ?_
        refine qe rfl (by decide) (.want rfl rfl rfl (by decide) (qk (.inl rfl) rfl)) (qe rfl (by decide) (.want rfl rfl rfl (by decide) (qn (r := .bool true) rfl rfl rfl (congrArg (fun b => some (Value.bool b)) l25))) (qe rfl (by decide) (.want rfl rfl rfl (by decide) (qk (.inl rfl) rfl)) ?_))
        refine qe rfl (by decide) (.want rfl rfl rfl (by decide) (qk (.inl rfl) rfl)) (qe rfl (by decide) (.want rfl rfl rfl (by decide) (qk (.inl rfl) rfl)) (qe rfl (by decide) (.want rfl rfl rfl (by decide) (stp_sub rfl rfl rfl (by omega))) (qe rfl (by decide) (.want rfl rfl rfl (by decide) (qo rfl qp rfl rfl (by omega) (qaI ha2))) (qe rfl (by decide) (.want rfl rfl rfl (by decide) (qZ rfl qai rfl)) ?_))))
        refine qe rfl (by decide) (.want rfl rfl rfl (by decide) (qR rfl qT rfl)) (qe rfl (by decide) (.want rfl rfl rfl (by decide) (qk (.inl rfl) rfl)) (qe rfl (by decide) (.want rfl rfl rfl (by decide) (qk (.inl rfl) rfl)) (qe rfl (by decide) (.want rfl rfl rfl (by decide) (qo rfl qp rfl rfl (by omega) (qaI hu))) (qe rfl (by decide) (.want rfl rfl rfl (by decide) (qZ rfl qai rfl)) ?_))))
        refine qe rfl (by decide) (.want rfl rfl rfl (by decide) (qR rfl qT rfl)) (qe rfl (by decide) (.want rfl rfl rfl (by decide) (qbn (r := .bool false) rfl rfl rfl (congrArg (fun b => some (Value.bool b)) l38))) (qe rfl (by decide) (.want rfl rfl rfl (by decide) (qj rfl rfl rfl)) (qe rfl (by decide) (.run rfl (qj rfl rfl rfl)) (qe rfl (by decide) (.run rfl (qk (.inl rfl) rfl)) ?_))))
        refine qe rfl (by decide) (.want rfl rfl rfl (by decide) (qk (.inl rfl) rfl)) (qe rfl (by decide) (.want rfl rfl rfl (by decide) (qk (.inl rfl) rfl)) (qau ⟨rfl, rfl, ?_⟩)); refine zG rfl rfl rfl rfl (qo rfl qp rfl rfl (by omega) (qaI hu)) (zG rfl rfl rfl rfl (qZ rfl qan rfl) (zG rfl rfl rfl rfl (qD rfl qi rfl rfl) ?_))
        refine zG rfl rfl rfl rfl (qN (avs := [_]) true rfl qaK rfl rfl (qc8 u.t hut) (fun _ => rfl) rfl) (zG rfl rfl rfl rfl (qU rfl rfl) (zA rfl (qj rfl rfl rfl) (qc (qa (qu rfl (fun c2 => ?_) (fun c2 => ?_))))))
        · try simp only [↓cqA, cqB] at c2
          refine qd (qb (zN rfl rfl rfl (qc (qa (qm (qL (ql (ql (qL (ql (?_)))))))))))
          -- leaf 0F1Tl21Tl25Tl38F2T
          refine ret0 (noL hL) (.inl rfl) (qf rfl (qh)) ?_ ?_
          · rfl
          refine ⟨qW ?_, rfl⟩
          symm
          first
            | (rw [mayB, decide_eq_false (show ¬ l.length ≤ 16 by omega)]; rfl)
            | (have hst : qc1 l k = false := by
                 rw [qbQ hu]
                 first | (rw [m21]; simp; done) | (rw [c2]; simp; done) | (simp [ha, m38]; omega)
               have : (List.range l.length).all (qc1 l) = false := List.all_eq_false.2 ⟨k, by simp; omega, by simp [hst]⟩
               rw [mayB, this]; simp; done)
            | (have h1 := (atB_has y l).1 (by omega)
               have h2 := (varsR_occ hvt y).1 (List.mem_of_getElem? hy)
               have : (noteL 5 (l.map Bd.t)).any (hasB l) = true := List.any_eq_true.2 ⟨y, (noteL5 hdl y).2 ⟨v.t, List.mem_map.2 ⟨v, hvm, rfl⟩, h2⟩, h1⟩
               rw [mayB, this]; simp; done)
            | trace_state
        try simp only [↓cqA, cqB] at c2
        refine qt (qP (qa (qb (zM rfl rfl rfl (zA rfl (qM rfl rfl rfl (by omega)) (zN rfl rfl rfl (qc ?_))))))); refine qa ?_; refine ⟨?_, ?_, ?_⟩
        · skip
          omega
        · skip
          refine ⟨by omega, fun j hj => ?_⟩
          by_cases hjk : j < k
          · exact hp.2 j hjk
          · rw [show j = k by omega, qbQ hu, m21, c2]
            first | (simp [ha, m38]; done) | (simp; left; omega) | (simp; omega)
        exact qI (SubT.cons (zT rfl) (SubT.cons (zT rfl) (SubT.nil))) (SubO.nil) rfl rfl (noL' (noL hL) _)
      have m25 := l25
      try simp only [↓cqA, cqB] at m25
      refine q8 28 qbd rfl rfl rfl rfl (qe rfl (by decide) (.run rfl (qk (.inl rfl) rfl)) (qe rfl (by decide) (.run rfl (qk (.inl rfl) rfl)) (qe rfl (by decide) (.run rfl (qo rfl qp rfl rfl (by omega) (qaI hu))) (qe rfl (by decide) (.run rfl (qZ rfl qai rfl)) (qe rfl (by decide) (.run rfl (qR rfl qT rfl)) ?_)))))
      refine qe rfl (by decide) (.run rfl (qN (avs := [_]) true rfl qbL rfl rfl (by have hh := rVar_ok u.name; rw [l21] at hh; exact hh) (fun _ => rfl) rfl)) ?_; refine qe rfl (by decide) (.run rfl (qU rfl rfl)) ?_; refine qe rfl (by decide) (.run rfl (qk (.inl rfl) rfl)) ?_
      refine qe rfl (by decide) (.want rfl rfl rfl (by decide) (qk (.inl rfl) rfl)) (qe rfl (by decide) (.want rfl rfl rfl (by decide) (qn (r := .bool false) rfl rfl rfl (congrArg (fun b => some (Value.bool b)) l25))) (qe rfl (by decide) (.want rfl rfl rfl (by decide) (qk (.inl rfl) rfl)) ?_))
      refine qe rfl (by decide) (.skip rfl rfl rfl (by decide) (by decide)) (qe rfl (by decide) (.skip rfl rfl rfl (by decide) (by decide)) (qe rfl (by decide) (.skip rfl rfl rfl (by decide) (by decide)) (qe rfl (by decide) (.skip rfl rfl rfl (by decide) (by decide)) (qe rfl (by decide) (.skip rfl rfl rfl (by decide) (by decide)) ?_))))
      refine qe rfl (by decide) (.skip rfl rfl rfl (by decide) (by decide)) (qe rfl (by decide) (.skip rfl rfl rfl (by decide) (by decide)) (qe rfl (by decide) (.skip rfl rfl rfl (by decide) (by decide)) (qe rfl (by decide) (.skip rfl rfl rfl (by decide) (by decide)) (qe rfl (by decide) (.skip rfl rfl rfl (by decide) (by decide)) ?_))))
      refine qe rfl (by decide) (.skip rfl rfl rfl (by decide) (by decide)) (qe rfl (by decide) (.skip rfl rfl rfl (by decide) (by decide)) (qe rfl (by decide) (.want rfl rfl rfl (by decide) (qj rfl rfl rfl)) (qe rfl (by decide) (.run rfl (qj rfl rfl rfl)) (qe rfl (by decide) (.run rfl (qk (.inl rfl) rfl)) ?_))))
      refine qe rfl (by decide) (.want rfl rfl rfl (by decide) (qk (.inl rfl) rfl)) (qe rfl (by decide) (.want rfl rfl rfl (by decide) (qk (.inl rfl) rfl)) (qau ⟨rfl, rfl, ?_⟩)); refine zG rfl rfl rfl rfl (qo rfl qp rfl rfl (by omega) (qaI hu)) (zG rfl rfl rfl rfl (qZ rfl qan rfl) (zG rfl rfl rfl rfl (qD rfl qi rfl rfl) ?_))
      refine zG rfl rfl rfl rfl (qN (avs := [_]) true rfl qaK rfl rfl (qc8 u.t hut) (fun _ => rfl) rfl) (zG rfl rfl rfl rfl (qU rfl rfl) (zA rfl (qj rfl rfl rfl) (qc (qa (qu rfl (fun c2 => ?_) (fun c2 => ?_))))))
      · try simp only [↓cqA, cqB] at c2
        refine qd (qb (zN rfl rfl rfl (qc (qa (qm (qL (ql (ql (qL (ql (?_)))))))))))
        -- leaf 0F1Tl21Tl25F2T
        refine ret0 (noL hL) (.inl rfl) (qf rfl (qh)) ?_ ?_
        · rfl
        refine ⟨qW ?_, rfl⟩
        symm
        first
          | (rw [mayB, decide_eq_false (show ¬ l.length ≤ 16 by omega)]; rfl)
          | (have hst : qc1 l k = false := by
               rw [qbQ hu]
               first | (rw [m21]; simp; done) | (rw [c2]; simp; done) | (simp [ha, m38]; omega)
             have : (List.range l.length).all (qc1 l) = false := List.all_eq_false.2 ⟨k, by simp; omega, by simp [hst]⟩
             rw [mayB, this]; simp; done)
          | (have h1 := (atB_has y l).1 (by omega)
             have h2 := (varsR_occ hvt y).1 (List.mem_of_getElem? hy)
             have : (noteL 5 (l.map Bd.t)).any (hasB l) = true := List.any_eq_true.2 ⟨y, (noteL5 hdl y).2 ⟨v.t, List.mem_map.2 ⟨v, hvm, rfl⟩, h2⟩, h1⟩
             rw [mayB, this]; simp; done)
          | trace_state
      try simp only [↓cqA, cqB] at c2
      refine qt (qP (qa (qb (zM rfl rfl rfl (zA rfl (qM rfl rfl rfl (by omega)) (zN rfl rfl rfl (qc ?_))))))); refine qa ?_; refine ⟨?_, ?_, ?_⟩
      · skip
        omega
      · skip
        refine ⟨by omega, fun j hj => ?_⟩
        by_cases hjk : j < k
        · exact hp.2 j hjk
        · rw [show j = k by omega, qbQ hu, m21, c2]
          first | (simp [ha, m38]; done) | (simp; left; omega) | (simp; omega)
      exact qI (SubT.cons (zT rfl) (SubT.cons (zT rfl) (SubT.nil))) (SubO.nil) rfl rfl (noL' (noL hL) _)
    have m21 := l21
    try simp only [↓cqA, cqB] at m21
    refine q8 28 qbd rfl rfl rfl rfl (qe rfl (by decide) (.run rfl (qk (.inl rfl) rfl)) (qe rfl (by decide) (.run rfl (qk (.inl rfl) rfl)) (qe rfl (by decide) (.run rfl (qo rfl qp rfl rfl (by omega) (qaI hu))) (qe rfl (by decide) (.run rfl (qZ rfl qai rfl)) (qe rfl (by decide) (.run rfl (qR rfl qT rfl)) ?_)))))
    refine qe rfl (by decide) (.run rfl (qN (avs := [_]) true rfl qbL rfl rfl (by have hh := rVar_ok u.name; rw [l21] at hh; exact hh) (fun _ => rfl) rfl)) ?_; refine qe rfl (by decide) (.run rfl (qU rfl rfl)) ?_; refine qe rfl (by decide) (.run rfl (qk (.inl rfl) rfl)) ?_; refine qe rfl (by decide) (.skip rfl rfl rfl (by decide) (by decide)) ?_
    refine qe rfl (by decide) (.skip rfl rfl rfl (by decide) (by decide)) (qe rfl (by decide) (.skip rfl rfl rfl (by decide) (by decide)) (qe rfl (by decide) (.skipu rfl rfl rfl (by decide)) (qe rfl (by decide) (.skipu rfl rfl rfl (by decide)) (qe rfl (by decide) (.skipu rfl rfl rfl (by decide)) ?_))))
    refine qe rfl (by decide) (.skipu rfl rfl rfl (by decide)) (qe rfl (by decide) (.skipu rfl rfl rfl (by decide)) (qe rfl (by decide) (.skipu rfl rfl rfl (by decide)) (qe rfl (by decide) (.skipu rfl rfl rfl (by decide)) (qe rfl (by decide) (.skipu rfl rfl rfl (by decide)) ?_))))
    refine qe rfl (by decide) (.skipu rfl rfl rfl (by decide)) (qe rfl (by decide) (.skipu rfl rfl rfl (by decide)) (qe rfl (by decide) (.skipu rfl rfl rfl (by decide)) (qe rfl (by decide) (.skipu rfl rfl rfl (by decide)) (qe rfl (by decide) (.skip rfl rfl rfl (by decide) (by decide)) ?_))))
    refine qe rfl (by decide) (.run rfl (qj rfl rfl rfl)) (qe rfl (by decide) (.run rfl (qk (.inl rfl) rfl)) (qe rfl (by decide) (.skip rfl rfl rfl (by decide) (by decide)) (qe rfl (by decide) (.skip rfl rfl rfl (by decide) (by decide)) (qau ⟨rfl, rfl, ?_⟩)))); refine zS rfl rfl rfl rfl ?_
    refine zS rfl rfl rfl rfl (zS rfl rfl rfl rfl (zS rfl rfl rfl rfl (zS rfl rfl rfl rfl (zA rfl (qj rfl rfl rfl) (qc (qa (qaj rfl ?_)))))))
    refine qd (qb (zN rfl rfl rfl (qc (qa (qm (qL (ql (ql (qL (ql (?_)))))))))))
    -- leaf 0F1Tl21F
    refine ret0 (noL hL) (.inl rfl) (qf rfl (qh)) ?_ ?_
    · rfl
    refine ⟨qW ?_, rfl⟩
    symm
    first
      | (rw [mayB, decide_eq_false (show ¬ l.length ≤ 16 by omega)]; rfl)
      | (have hst : qc1 l k = false := by
           rw [qbQ hu]
           first | (rw [m21]; simp; done) | (rw [c2]; simp; done) | (simp [ha, m38]; omega)
         have : (List.range l.length).all (qc1 l) = false := List.all_eq_false.2 ⟨k, by simp; omega, by simp [hst]⟩
         rw [mayB, this]; simp; done)
      | (have h1 := (atB_has y l).1 (by omega)
         have h2 := (varsR_occ hvt y).1 (List.mem_of_getElem? hy)
         have : (noteL 5 (l.map Bd.t)).any (hasB l) = true := List.any_eq_true.2 ⟨y, (noteL5 hdl y).2 ⟨v.t, List.mem_map.2 ⟨v, hvm, rfl⟩, h2⟩, h1⟩
         rw [mayB, this]; simp; done)
      | trace_state
  try simp only [↓cqA, cqB] at c1
  have hst : ∀ j, j < l.length → qc1 l j = true := fun j hj => hp.2 j (by omega)
  have hok := steps_bok hst (by omega) hw
  have hall : (List.range l.length).all (qc1 l) = true := List.all_eq_true.2 (fun j hj => hst j (by simpa using hj))
  have hdl : ∀ t ∈ l.map Bd.t, dle 5 t := fun t ht => by obtain ⟨b, hb2, rfl⟩ := List.mem_map.1 ht; exact qao (hok.el b hb2).2
  refine qQ (qq (qq (q7 ?_))); refine qa (qd (qd (qb (zN rfl rfl rfl (qc (qa (qB ?_))))))); refine qV (l.length) (fun i => i ≤ l.length ∧ ∀ (j : Nat) (b : Bd), j < i → l[j]? = some b → ∀ y, b.t.occ y → hasB l y = false) (fun i => ⟨[(0, bdA l), (4, iv (i : Int))], []⟩) (⟨by omega, fun j b hj => absurd hj (by omega)⟩) ?_ (fun i hi hpi => ?_)
  · exact qI (SubT.cons (zT rfl) (SubT.cons (zT rfl) (SubT.nil))) (SubO.nil) rfl rfl (noL' (noL hL) _)
  refine qd (qd (qb (zM rfl rfl rfl (zM rfl rfl rfl (zA rfl (qy rfl qp rfl) (zA rfl (qn rfl rfl rfl rfl) (qc ?_))))))); refine qa (qu rfl (fun c3 => ?_) (fun c3 => ?_))
  · try simp only [↓cqA, cqB] at c3
    obtain ⟨v, hv⟩ := qK (l := l) (k := i) (by omega)
    have hvm := List.mem_of_getElem? hv
    have hvt := (hok.el v hvm).2
    have hvl := varsR_len 5 v.t
    have hvn := qa6 hvt
    have hlv := qaT (varsR 5 v.t)
    refine qt (qa (qd (qB (qd (qb (zM rfl rfl rfl (zM rfl rfl rfl ?_))))))); refine zA rfl (qo rfl qp rfl rfl (by omega) (qaI hv)) (zA rfl (qZ rfl qan rfl) (zA rfl (qD rfl qi rfl rfl) ?_))
    refine qC (avs := [_]) true rfl rfl rfl (by decide) qcH rfl rfl (rVars_ok 5 v.t (qao hvt) (hw v hvm).2 (by omega)) rfl rfl (zN rfl rfl rfl (qc (qa (qd (qb (zN rfl rfl rfl (qc ?_)))))))
    refine qa (qB (qV ((varsR 5 v.t).length) (fun q => q ≤ (varsR 5 v.t).length ∧ ∀ (j : Nat) (y : ByteArray), j < q → (varsR 5 v.t)[j]? = some y → hasB l y = false) (fun q => ⟨[(0, bdA l), (4, iv (i : Int)), (5, .dat true 1 (qbP (varsR 5 v.t))), (6, iv (q : Int))], []⟩) (⟨by omega, fun j b hj => absurd hj (by omega)⟩) ?_ (fun q hq hpq => ?_)))
    · exact qI (SubT.cons (zT rfl) (SubT.cons (zT rfl) (SubT.cons (zT rfl) (SubT.cons (zT rfl) (SubT.nil))))) (SubO.nil) rfl rfl (noL' (noL hL) _)
    refine qd (qd (qb (zM rfl rfl rfl (zM rfl rfl rfl (zA rfl (qy rfl qae rfl) (zA rfl (qn rfl rfl rfl rfl) (qc ?_))))))); refine qa (qu rfl (fun c4 => ?_) (fun c4 => ?_))
    · try simp only [↓cqA, cqB] at c4
      obtain ⟨y, hy⟩ := qK (l := varsR 5 v.t) (k := q) (by omega)
      refine qt (qa (qd (qB (qd (qb (zM rfl rfl rfl (zM rfl rfl rfl ?_))))))); refine zM rfl rfl rfl (zA rfl (qo rfl qae rfl rfl (by omega) (qb9 hy)) (zA rfl (qR rfl qT rfl) ?_))
      refine qC (avs := [_, _]) true rfl rfl rfl (by decide) qcj rfl rfl (At1_ok' l y hl) rfl rfl (zA rfl (qn rfl rfl rfl rfl) (qc (qa (qu rfl (fun c5 => ?_) (fun c5 => ?_)))))
      · try simp only [↓cqA, cqB] at c5
        refine qd (qb (zN rfl rfl rfl (qc (qa (qm (qL (ql (ql (qL (qL (ql (ql (qL (ql (?_)))))))))))))))
        -- leaf 0F1F3T4T5T
        refine ret0 (noL hL) (.inl rfl) (qf rfl (qh)) ?_ ?_
        · rfl
        refine ⟨qW ?_, rfl⟩
        symm
        first
          | (rw [mayB, decide_eq_false (show ¬ l.length ≤ 16 by omega)]; rfl)
          | (have hst : qc1 l k = false := by
               rw [qbQ hu]
               first | (rw [m21]; simp; done) | (rw [c2]; simp; done) | (simp [ha, m38]; omega)
             have : (List.range l.length).all (qc1 l) = false := List.all_eq_false.2 ⟨k, by simp; omega, by simp [hst]⟩
             rw [mayB, this]; simp; done)
          | (have h1 := (atB_has y l).1 (by omega)
             have h2 := (varsR_occ hvt y).1 (List.mem_of_getElem? hy)
             have : (noteL 5 (l.map Bd.t)).any (hasB l) = true := List.any_eq_true.2 ⟨y, (noteL5 hdl y).2 ⟨v.t, List.mem_map.2 ⟨v, hvm, rfl⟩, h2⟩, h1⟩
             rw [mayB, this]; simp; done)
          | trace_state
      try simp only [↓cqA, cqB] at c5
      refine qt (qP (qa (qb (zM rfl rfl rfl (zA rfl (qM rfl rfl rfl (by omega)) (zN rfl rfl rfl (qc ?_))))))); refine qa ?_; refine ⟨?_, ?_, ?_⟩
      · skip
        omega
      · skip
        refine ⟨by omega, fun j b hj hb => ?_⟩
        by_cases hjq : j < q
        · exact hpq.2 j b hjq hb
        · rw [show j = q by omega, hy] at hb; cases hb
          cases hc : hasB l y with
          | false => rfl
          | true => have := (atB_has y l).2 hc; omega
      exact qI (SubT.cons (zT rfl) (SubT.cons (zT rfl) (SubT.cons (zT rfl) (SubT.cons (zT rfl) (SubT.nil))))) (SubO.nil) rfl rfl (noL' (noL hL) _)
    try simp only [↓cqA, cqB] at c4
    refine qQ (qq (qq (q7 ?_))); refine qP (qa (qb (zM rfl rfl rfl (zA rfl (qM rfl rfl rfl (by omega)) (zN rfl rfl rfl (qc (qa ?_))))))); refine ⟨?_, ?_, ?_⟩
    · skip
      omega
    · skip
      refine ⟨by omega, fun j b hj hb => ?_⟩
      by_cases hji : j < i
      · exact hpi.2 j b hji hb
      · rw [show j = i by omega, hv] at hb; cases hb
        intro y hy
        obtain ⟨j2, hj2⟩ := List.getElem?_of_mem ((varsR_occ hvt y).2 hy)
        exact hpq.2 j2 y (by have := (List.getElem?_eq_some_iff.1 hj2).1; omega) hj2
    exact qI (SubT.cons (zT rfl) (SubT.cons (zT rfl) (SubT.nil))) (SubO.nil) rfl rfl (noL' (noL hL) _)
  try simp only [↓cqA, cqB] at c3
  refine qQ (qq (qq (q7 ?_))); refine qa (qd (qb (zN rfl rfl rfl (qc (qa (qm ?_))))))
  -- leaf 0F1F3F
  refine ret0 (noL hL) (.inl rfl) (qf rfl (qh)) ?_ ?_
  · rfl
  refine ⟨qW ?_, rfl⟩
  symm
  rw [mayB, decide_eq_true (by omega), hall]
  simp only [Bool.true_and, Bool.not_eq_true']
  refine List.any_eq_false.2 fun y hy => ?_
  obtain ⟨t, ht, ho⟩ := (noteL5 hdl y).1 hy
  obtain ⟨b, hb2, rfl⟩ := List.mem_map.1 ht
  obtain ⟨j, hj⟩ := List.getElem?_of_mem hb2
  rw [hpi.2 j b (by have := (List.getElem?_eq_some_iff.1 hj).1; omega) hj y ho]; simp
end Go.Proofs.YtdecgkhdbfgldaaGreat
