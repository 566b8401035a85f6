/- Part 14 of the proof: Ia, Gq, Gr. -/
import Derived.Test.YtdecgkhdbfgldaaGreatD13
set_option linter.unusedVariables false
set_option linter.unusedSimpArgs false
set_option maxRecDepth 8000
namespace Go.Proofs.YtdecgkhdbfgldaaGreat
open Go
def dpA (f : Tm → Int) (l : List Tm) : Int := l.foldl (fun n u => max n (f u)) 0
def dpT : Nat → Tm → Int
  | 0, _ => 0
  | d + 1, t => dpA (dpT d) t.args + 1
theorem dpA_snoc (f : Tm → Int) {l : List Tm} {k : Nat} {u : Tm} (hu : l[k]? = some u) : dpA f (l.take (k + 1)) = max (dpA f (l.take k)) (f u) := by
  rw [qah hu, dpA, List.foldl_append]; rfl
theorem foldmax_le (f : Tm → Int) (m : Int) : ∀ (l : List Tm) (n : Int), 0 ≤ n → n ≤ m → (∀ u ∈ l, 0 ≤ f u ∧ f u ≤ m) → 0 ≤ l.foldl (fun n u => max n (f u)) n ∧ l.foldl (fun n u => max n (f u)) n ≤ m
  | [], n, h0, hn, _ => ⟨h0, hn⟩
  | a :: l, n, h0, hn, h => by
    have h1 := h a (by simp)
    exact foldmax_le f m l (max n (f a)) (by omega) (by omega) fun u hu => h u (by simp [hu])
theorem dpT_range : ∀ (d : Nat) (t : Tm), 0 ≤ dpT d t ∧ dpT d t ≤ d
  | 0, t => by simp [dpT]
  | d + 1, t => by
    have := foldmax_le (dpT d) d t.args 0 (by omega) (by omega) fun u _ => dpT_range d u
    simp only [dpT, dpA]; omega
theorem dpA_range (d : Nat) (l : List Tm) : 0 ≤ dpA (dpT d) l ∧ dpA (dpT d) l ≤ d := foldmax_le (dpT d) d l 0 (by omega) (by omega) fun u _ => dpT_range d u
theorem deep_ok : ∀ (d : Nat) (t : Tm), d ≤ 100 → dle d t → t.wf → PF 200 [tmA false t] (iv (dpT d t))
  | 0, t, _, h, _ => h.elim
  | d + 1, t, h9, h, ht => by
    have hlen := qaa t.args
    have hal := ht.2.2.2.1
    refine qG Tryz.func200 rfl Tryz.ntmps200 (Nat.le_of_ble_eq_true rfl) fun c hL hQ hDD => (qd (qb (qz rfl rfl (by decide) (qab 1 rfl rfl rfl) rfl (zN rfl rfl rfl (qc (qa (qd ?_))))))); refine qb (zN rfl rfl rfl (qc (qa (qd (qd (qb ?_))))))
    refine zA rfl (qg rfl qJ rfl) (zA rfl (qr rfl qF rfl rfl rfl rfl rfl) (zA rfl (qy rfl qv rfl) ?_))
    refine zM rfl rfl rfl (qc (qa (qB (qV (t.args.length) (fun k => k ≤ t.args.length) (fun k => ⟨[(3, iv (dpA (dpT d) (t.args.take k))), (7, .dat false 4 (tmDs t.args)), (8, iv (tmDs t.args).length), (9, iv (k : Int))], []⟩) (by omega) ?_ (fun k hk hp => ?_)))))
    · exact qI (SubT.cons (zT rfl) (SubT.cons (zT rfl) (SubT.cons (zT rfl) (SubT.cons (zT rfl) (SubT.nil))))) (SubO.nil) rfl rfl (noL' (noL hL) _)
    have hdr := dpA_range d (t.args.take k)
    refine qd (qb (zA rfl (qn rfl rfl rfl rfl) (qc (qa (qd (qu rfl (fun c0 => ?_) (fun c0 => ?_)))))))
    · try simp only [↓cqA, cqB] at c0
      obtain ⟨u, hu⟩ := qK (l := t.args) (k := k) (by omega)
      have hum := List.mem_of_getElem? hu
      have hmx := dpA_snoc (dpT d) hu
      refine qt (qa (qd (qB (qd (qb (zA rfl (qo rfl qv rfl rfl (by omega) (qax hu)) (zA rfl (qD rfl qi rfl rfl) ?_)))))))
      refine qz rfl rfl (by decide) (qaf 5 rfl q6 rfl) rfl (qO rfl rfl rfl qi rfl rfl rfl rfl rfl rfl rfl rfl rfl (qc (qa (qb (zM rfl rfl rfl (zA rfl (qw rfl qi rfl rfl rfl rfl) ?_))))))
      refine qC (avs := [_]) true rfl rfl rfl (by decide) en_term_deep rfl rfl (deep_ok d u (by omega) (h u hum) (Tm.wfs_mem ht.2.2.2.2 hum)) rfl rfl (zA rfl (stp_max rfl rfl rfl) (zN rfl rfl rfl (qc (qP (qa (qb (zA rfl (qM rfl rfl rfl (by omega)) ?_))))))); refine zM rfl rfl rfl (qc (qa ?_)); refine ⟨?_, ?_, ?_⟩
      · skip
        omega
      · skip
        omega
      exact qI (SubT.cons (qbg rfl (by exact qb6 (by rw [hmx]; split <;> omega))) (SubT.cons (zT rfl) (SubT.cons (zT rfl) (SubT.cons (zT rfl) (SubT.nil))))) (SubO.nil) rfl rfl (noL' (noL hL) _)
    try simp only [↓cqA, cqB] at c0
    refine qQ (qq (qq (q7 ?_))); refine qa (qd (qb (zM rfl rfl rfl (zA rfl (qM rfl rfl rfl (by omega)) (zN rfl rfl rfl (qc (qa ?_))))))); refine qm ?_
    -- leaf 0F
    refine ret0 (noL hL) (.inl rfl) (qf rfl (qh)) ?_ ?_
    · rfl
    refine ⟨qbr ?_, rfl⟩
    rw [List.take_of_length_le (by omega)]; rfl
theorem Depth_ok : ∀ (d : Nat) (t : Tm), d ≤ 100 → dle d t → t.wf → PF 258 [tmA false t] (iv (dpT d t))
  | 0, t, _, h, _ => h.elim
  | d + 1, t, h9, h, ht => by
    have hlen := qaa t.args
    have hal := ht.2.2.2.1
    refine qG Tryz.func258 rfl Tryz.ntmps258 (Nat.le_of_ble_eq_true rfl) fun c hL hQ hDD => (qd (qb (qz rfl rfl (by decide) (qab 1 rfl rfl rfl) rfl (zN rfl rfl rfl (qc (qa (qd ?_))))))); refine qb ?_
    refine zN rfl rfl rfl (qc (qa (qd (qd (qb (zN rfl rfl rfl (qc ?_))))))); refine qa (qB (qV (t.args.length) (fun k => k ≤ t.args.length) (fun k => ⟨[(1, .ptr 1 0), (3, iv (dpA (dpT d) (t.args.take k))), (4, iv (k : Int))], [(1, .box (lift false (tmD t)))]⟩) (by omega) ?_ (fun k hk hp => ?_)))
    · exact qI (SubT.cons (zT rfl) (SubT.cons (zT rfl) (SubT.cons (zT rfl) (SubT.nil)))) (SubO.cons (qag rfl (by rfl)) (SubO.nil)) rfl rfl (noL' (noL hL) _)
    have hdr := dpA_range d (t.args.take k)
    refine qd (qd (qb (zM rfl rfl rfl (zA rfl (qg rfl qJ rfl) (zA rfl (qr rfl qF rfl rfl rfl rfl rfl) (zA rfl (qy rfl qv rfl) (zA rfl (qn rfl rfl rfl rfl) ?_))))))); refine qc (qa (qu rfl (fun c0 => ?_) (fun c0 => ?_)))
    · try simp only [↓cqA, cqB] at c0
      obtain ⟨u, hu⟩ := qK (l := t.args) (k := k) (by omega)
      have hum := List.mem_of_getElem? hu
      have hmx := dpA_snoc (dpT d) hu
      refine qt (qa (qd (qB (qb (zM rfl rfl rfl (zA rfl (qg rfl qJ rfl) (zA rfl (qr rfl qF rfl rfl rfl rfl rfl) ?_))))))); refine zM rfl rfl rfl (zA rfl (qo rfl qv rfl rfl (by omega) (qax hu)) ?_)
      refine zA rfl (qD rfl qi rfl rfl) (qC (avs := [_]) true rfl rfl rfl (by decide) en_almagestref1_Depth rfl rfl (Depth_ok d u (by omega) (h u hum) (Tm.wfs_mem ht.2.2.2.2 hum)) rfl rfl (zA rfl (stp_max rfl rfl rfl) (zN rfl rfl rfl (qc (qP (qa (qb ?_)))))))
      refine zM rfl rfl rfl (zA rfl (qM rfl rfl rfl (by omega)) (zN rfl rfl rfl (qc (qa ?_)))); refine ⟨?_, ?_, ?_⟩
      · skip
        omega
      · skip
        omega
      exact qI (SubT.cons (zT rfl) (SubT.cons (qbg rfl (by exact qb6 (by rw [hmx]; split <;> omega))) (SubT.cons (zT rfl) (SubT.nil)))) (SubO.cons (qag rfl (by rfl)) (SubO.nil)) rfl rfl (noL' (noL hL) _)
    try simp only [↓cqA, cqB] at c0
    refine qQ (qq (qq (q7 ?_))); refine qa (qd (qb (zM rfl rfl rfl (zA rfl (qM rfl rfl rfl (by omega)) (zN rfl rfl rfl (qc (qa ?_))))))); refine qm ?_
    -- leaf 0F
    refine ret0 (noL hL) (.inl rfl) (qf rfl (qh)) ?_ ?_
    · rfl
    refine ⟨qbr ?_, rfl⟩
    rw [List.take_of_length_le (by omega)]; rfl
def qda (t : Tm) : Bool := decide (t.kind = 3) && decide (dpT 5 t ≤ 2)
theorem Flat_ok (t : Tm) (h : dle 5 t) (ht : t.wf) : PF 138 [tmA false t] (bv (qda t)) := by
  refine qG Tryz.func138 rfl Tryz.ntmps138 (Nat.le_of_ble_eq_true rfl) fun c hL hQ hDD => (qd (qb (qz rfl rfl (by decide) (qab 1 rfl rfl rfl) rfl (zN rfl rfl rfl (qc (qa (qd ?_))))))); refine qb (zA rfl (qg rfl q9 rfl) (zA rfl (qr rfl qay rfl rfl rfl rfl rfl) ?_))
  refine zA rfl (qn rfl rfl rfl rfl) (zM rfl rfl rfl (qA 6 rfl (fun g6 => ?_) (fun g6 => ?_)))
  · try simp only [↓cqA, cqB] at g6
    refine zG rfl rfl rfl rfl (qw rfl qi rfl rfl rfl rfl) (zG rfl rfl rfl rfl (qN (avs := [_]) true rfl en_term_deep rfl rfl (deep_ok 5 t (by omega) h ht) (fun _ => rfl) rfl) (zG rfl rfl rfl rfl (qn rfl rfl rfl rfl) (zA rfl (qj rfl rfl rfl) (zN rfl rfl rfl (qc (qa (qm ?_)))))))
    -- leaf g6T
    refine ret0 (noL hL) (.inl rfl) (qf rfl (qh)) ?_ ?_
    · rfl
    refine ⟨qW ?_, rfl⟩
    simp_all [qda]
  try simp only [↓cqA, cqB] at g6
  refine zS rfl rfl rfl rfl (zS rfl rfl rfl rfl (zS rfl rfl rfl rfl (zA rfl (qj rfl rfl rfl) (zN rfl rfl rfl (qc (qa (qm ?_)))))))
  -- leaf g6F
  refine ret0 (noL hL) (.inl rfl) (qf rfl (qh)) ?_ ?_
  · rfl
  refine ⟨qW ?_, rfl⟩
  simp_all [qda]
theorem rAtom_ok (t : Tm) (h : dle 5 t) (ht : t.wf) : PF 220 [tmA false t] (bv (qda t)) := by
  refine qG Tryz.func220 rfl Tryz.ntmps220 (Nat.le_of_ble_eq_true rfl) fun c hL hQ hDD => (qd (qb (qz rfl rfl (by decide) (qab 1 rfl rfl rfl) rfl (zN rfl rfl rfl (qc (qa (qd ?_))))))); refine qb (zA rfl (qg rfl q9 rfl) (zA rfl (qr rfl qay rfl rfl rfl rfl rfl) ?_))
  refine zA rfl (qn rfl rfl rfl rfl) (zM rfl rfl rfl (qA 6 rfl (fun g6 => ?_) (fun g6 => ?_)))
  · try simp only [↓cqA, cqB] at g6
    refine zG rfl rfl rfl rfl (qw rfl qi rfl rfl rfl rfl) (zG rfl rfl rfl rfl (qN (avs := [_]) true rfl en_almagestref1_Depth rfl rfl (Depth_ok 5 t (by omega) h ht) (fun _ => rfl) rfl) (zG rfl rfl rfl rfl (qn rfl rfl rfl rfl) (zA rfl (qj rfl rfl rfl) (zN rfl rfl rfl (qc (qa (qm ?_)))))))
    -- leaf g6T
    refine ret0 (noL hL) (.inl rfl) (qf rfl (qh)) ?_ ?_
    · rfl
    refine ⟨qW ?_, rfl⟩
    simp_all [qda]
  try simp only [↓cqA, cqB] at g6
  refine zS rfl rfl rfl rfl (zS rfl rfl rfl rfl (zS rfl rfl rfl rfl (zA rfl (qj rfl rfl rfl) (zN rfl rfl rfl (qc (qa (qm ?_)))))))
  -- leaf g6F
  refine ret0 (noL hL) (.inl rfl) (qf rfl (qh)) ?_ ?_
  · rfl
  refine ⟨qW ?_, rfl⟩
  simp_all [qda]
theorem showAtom_ok (t : Tm) (ht : t.wf) : PF 166 [tmA false t] (bv (mayT t && qda t)) := by
  refine qG Tryz.func166 rfl Tryz.ntmps166 (Nat.le_of_ble_eq_true rfl) fun c hL hQ hDD => (qd (qb (qz rfl rfl (by decide) (qab 1 rfl rfl rfl) rfl (zN rfl rfl rfl (qc (qa (qd ?_))))))); refine qb (zA rfl (qw rfl qi rfl rfl rfl rfl) ?_)
  refine qC (avs := [_]) true rfl rfl rfl (by decide) qa2 rfl rfl (May_ok t ht) rfl rfl (zM rfl rfl rfl (qA 5 rfl (fun g5 => ?_) (fun g5 => ?_)))
  · try simp only [↓cqA, cqB] at g5
    refine zG rfl rfl rfl rfl (qw rfl qi rfl rfl rfl rfl) (zG rfl rfl rfl rfl (qN (avs := [_]) true rfl qcY rfl rfl (Flat_ok t (qa6 (by assumption)).1 ht) (fun _ => rfl) rfl) (zA rfl (qj rfl rfl rfl) (zN rfl rfl rfl (qc (qa (qm ?_))))))
    -- leaf g5T
    refine ret0 (noL hL) (.inl rfl) (qf rfl (qh)) ?_ ?_
    · rfl
    refine ⟨qW ?_, rfl⟩
    simp_all
  try simp only [↓cqA, cqB] at g5
  refine zS rfl rfl rfl rfl (zS rfl rfl rfl rfl (zA rfl (qj rfl rfl rfl) (zN rfl rfl rfl (qc (qa (qm ?_))))))
  -- leaf g5F
  refine ret0 (noL hL) (.inl rfl) (qf rfl (qh)) ?_ ?_
  · rfl
  refine ⟨qW ?_, rfl⟩
  simp_all
def noneB (t : Tm) : Bool := decide (t.kind = 0) && decide (t.name = ⟨#[]⟩) && decide (t.n = 0) && decide (t.args.length = 0)
theorem showNone_ok (t : Tm) (ht : t.wf) : PF 167 [tmA false t] (bv (noneB t)) := by
  have hlen := qaa t.args
  refine qG Tryz.func167 rfl Tryz.ntmps167 (Nat.le_of_ble_eq_true rfl) fun c hL hQ hDD => (qd (qb (qz rfl rfl (by decide) (qab 1 rfl rfl rfl) rfl (zN rfl rfl rfl (qc (qa (qd ?_))))))); refine qb (zA rfl (qg rfl q9 rfl) (zA rfl (qr rfl qay rfl rfl rfl rfl rfl) ?_))
  refine zA rfl (qn rfl rfl rfl rfl) (zM rfl rfl rfl (qA 6 rfl (fun g6 => ?_) (fun g6 => ?_)))
  · try simp only [↓cqA, cqB] at g6
    refine zG rfl rfl rfl rfl (qg rfl qad rfl) (zG rfl rfl rfl rfl (qr rfl qT rfl rfl rfl rfl rfl) (zG rfl rfl rfl rfl (qbn rfl rfl rfl rfl) (zA rfl (qj rfl rfl rfl) (zM rfl rfl rfl (qA 11 rfl (fun g11 => ?_) (fun g11 => ?_))))))
    · try simp only [↓cqA, cqB] at g11
      refine zG rfl rfl rfl rfl (qg rfl qaB rfl) (zG rfl rfl rfl rfl (qr rfl qay rfl rfl rfl rfl rfl) (zG rfl rfl rfl rfl (qn rfl rfl rfl rfl) (zA rfl (qj rfl rfl rfl) (zM rfl rfl rfl (qA 16 rfl (fun g16 => ?_) (fun g16 => ?_))))))
      · try simp only [↓cqA, cqB] at g16
        refine zG rfl rfl rfl rfl (qg rfl qJ rfl) (zG rfl rfl rfl rfl (qr rfl qF rfl rfl rfl rfl rfl) (zG rfl rfl rfl rfl (qy rfl qv rfl) (zG rfl rfl rfl rfl (qn rfl rfl rfl rfl) (zA rfl (qj rfl rfl rfl) (zN rfl rfl rfl (qc (qa ?_))))))); refine qm ?_
        -- leaf g6Tg11Tg16T
        refine ret0 (noL hL) (.inl rfl) (qf rfl (qh)) ?_ ?_
        · rfl
        refine ⟨qW ?_, rfl⟩
        first | (simp_all [noneB]; done) | (simp_all [noneB]; cases t.args <;> simp <;> omega)
      try simp only [↓cqA, cqB] at g16
      refine zS rfl rfl rfl rfl (zS rfl rfl rfl rfl (zS rfl rfl rfl rfl (zS rfl rfl rfl rfl (zA rfl (qj rfl rfl rfl) (zN rfl rfl rfl (qc (qa ?_))))))); refine qm ?_
      -- leaf g6Tg11Tg16F
      refine ret0 (noL hL) (.inl rfl) (qf rfl (qh)) ?_ ?_
      · rfl
      refine ⟨qW ?_, rfl⟩
      first | (simp_all [noneB]; done) | (simp_all [noneB]; cases t.args <;> simp <;> omega)
    try simp only [↓cqA, cqB] at g11
    refine zS rfl rfl rfl rfl (zS rfl rfl rfl rfl (zS rfl rfl rfl rfl (zA rfl (qj rfl rfl rfl) (zM rfl rfl rfl (zS rfl rfl rfl rfl ?_)))))
    refine zS rfl rfl rfl rfl (zS rfl rfl rfl rfl (zS rfl rfl rfl rfl (zA rfl (qj rfl rfl rfl) (zN rfl rfl rfl (qc (qa (qm ?_)))))))
    -- leaf g6Tg11F
    refine ret0 (noL hL) (.inl rfl) (qf rfl (qh)) ?_ ?_
    · rfl
    refine ⟨qW ?_, rfl⟩
    first | (simp_all [noneB]; done) | (simp_all [noneB]; cases t.args <;> simp <;> omega)
  try simp only [↓cqA, cqB] at g6
  refine zS rfl rfl rfl rfl (zS rfl rfl rfl rfl (zS rfl rfl rfl rfl (zA rfl (qj rfl rfl rfl) (zM rfl rfl rfl (zS rfl rfl rfl rfl ?_)))))
  refine zS rfl rfl rfl rfl (zS rfl rfl rfl rfl (zA rfl (qj rfl rfl rfl) (zM rfl rfl rfl (zS rfl rfl rfl rfl (zS rfl rfl rfl rfl ?_)))))
  refine zS rfl rfl rfl rfl (zS rfl rfl rfl rfl (zA rfl (qj rfl rfl rfl) (zN rfl rfl rfl (qc (qa (qm ?_))))))
  -- leaf g6F
  refine ret0 (noL hL) (.inl rfl) (qf rfl (qh)) ?_ ?_
  · rfl
  refine ⟨qW ?_, rfl⟩
  first | (simp_all [noneB]; done) | (simp_all [noneB]; cases t.args <;> simp <;> omega)
def cmpsB (g : Gd) : Bool := decide (1 ≤ g.kind) && decide (g.kind ≤ 4) && mayT g.l && mayT g.r
theorem qcp (g : Gd) (hg : g.wf) : PF 168 [.agg (lift false (gdD g))] (bv (cmpsB g)) := by
  have h1 := hg.2.1
  have h2 := hg.2.2
  refine qG Tryz.func168 rfl Tryz.ntmps168 (Nat.le_of_ble_eq_true rfl) fun c hL hQ hDD => (qd (qb (qz rfl rfl (by decide) (qab 1 rfl rfl rfl) rfl (zN rfl rfl rfl (qc (qa (qd ?_))))))); refine qb (zA rfl (qg rfl qaS rfl) (zA rfl (qr rfl qay rfl rfl rfl rfl rfl) ?_))
  refine zA rfl (qn rfl rfl rfl rfl) (zM rfl rfl rfl (qA 6 rfl (fun g6 => ?_) (fun g6 => ?_)))
  · try simp only [↓cqA, cqB] at g6
    refine zG rfl rfl rfl rfl (qg rfl qaS rfl) (zG rfl rfl rfl rfl (qr rfl qay rfl rfl rfl rfl rfl) (zG rfl rfl rfl rfl (qn rfl rfl rfl rfl) (zA rfl (qj rfl rfl rfl) (zM rfl rfl rfl (qA 11 rfl (fun g11 => ?_) (fun g11 => ?_))))))
    · try simp only [↓cqA, cqB] at g11
      refine zG rfl rfl rfl rfl (qg rfl qaO rfl) (zG rfl rfl rfl rfl (qr rfl qi rfl rfl rfl rfl rfl) (zG rfl rfl rfl rfl (qN (avs := [_]) true rfl qa2 rfl rfl (May_ok g.l h1) (fun _ => rfl) rfl) (zA rfl (qj rfl rfl rfl) (zM rfl rfl rfl (qA 16 rfl (fun g16 => ?_) (fun g16 => ?_))))))
      · try simp only [↓cqA, cqB] at g16
        refine zG rfl rfl rfl rfl (qg rfl qa1 rfl) (zG rfl rfl rfl rfl (qr rfl qi rfl rfl rfl rfl rfl) (zG rfl rfl rfl rfl (qN (avs := [_]) true rfl qa2 rfl rfl (May_ok g.r h2) (fun _ => rfl) rfl) (zA rfl (qj rfl rfl rfl) (zN rfl rfl rfl (qc (qa (qm ?_)))))))
        -- leaf g6Tg11Tg16T
        refine ret0 (noL hL) (.inl rfl) (qf rfl (qh)) ?_ ?_
        · rfl
        refine ⟨qW ?_, rfl⟩
        simp_all [cmpsB]
        try omega
      try simp only [↓cqA, cqB] at g16
      refine zS rfl rfl rfl rfl (zS rfl rfl rfl rfl (zS rfl rfl rfl rfl (zA rfl (qj rfl rfl rfl) (zN rfl rfl rfl (qc (qa (qm ?_)))))))
      -- leaf g6Tg11Tg16F
      refine ret0 (noL hL) (.inl rfl) (qf rfl (qh)) ?_ ?_
      · rfl
      refine ⟨qW ?_, rfl⟩
      simp_all [cmpsB]
      try omega
    try simp only [↓cqA, cqB] at g11
    refine zS rfl rfl rfl rfl (zS rfl rfl rfl rfl (zS rfl rfl rfl rfl (zA rfl (qj rfl rfl rfl) (zM rfl rfl rfl (zS rfl rfl rfl rfl ?_)))))
    refine zS rfl rfl rfl rfl (zS rfl rfl rfl rfl (zA rfl (qj rfl rfl rfl) (zN rfl rfl rfl (qc (qa (qm ?_))))))
    -- leaf g6Tg11F
    refine ret0 (noL hL) (.inl rfl) (qf rfl (qh)) ?_ ?_
    · rfl
    refine ⟨qW ?_, rfl⟩
    simp_all [cmpsB]
    try omega
  try simp only [↓cqA, cqB] at g6
  refine zS rfl rfl rfl rfl (zS rfl rfl rfl rfl (zS rfl rfl rfl rfl (zA rfl (qj rfl rfl rfl) (zM rfl rfl rfl (zS rfl rfl rfl rfl ?_)))))
  refine zS rfl rfl rfl rfl (zS rfl rfl rfl rfl (zA rfl (qj rfl rfl rfl) (zM rfl rfl rfl (zS rfl rfl rfl rfl (zS rfl rfl rfl rfl ?_)))))
  refine zS rfl rfl rfl rfl (zA rfl (qj rfl rfl rfl) (zN rfl rfl rfl (qc (qa (qm ?_)))))
  -- leaf g6F
  refine ret0 (noL hL) (.inl rfl) (qf rfl (qh)) ?_ ?_
  · rfl
  refine ⟨qW ?_, rfl⟩
  simp_all [cmpsB]
  try omega
def okG (g : Gd) : Bool := cmpsB g || ((decide (g.kind = 5) || decide (g.kind = 6)) && (mayT g.l && qda g.l) && noneB g.r)
theorem showGuards1_ok (g : Gd) (hg : g.wf) : PF 165 [.agg (lift false (gdD g))] (bv (!(okG g))) := by
  have h1 := hg.2.1
  have h2 := hg.2.2
  refine qG Tryz.func165 rfl Tryz.ntmps165 (Nat.le_of_ble_eq_true rfl) fun c hL hQ hDD => (qd (qb (qz rfl rfl (by decide) (qab 1 rfl rfl rfl) rfl (zN rfl rfl rfl (qc (qa (qd ?_))))))); refine qb (zA rfl (qg rfl qaS rfl) (zA rfl (qr rfl qay rfl rfl rfl rfl rfl) ?_))
  refine zA rfl (qn rfl rfl rfl rfl) (zM rfl rfl rfl (qA 7 rfl (fun g7 => ?_) (fun g7 => ?_)))
  · try simp only [↓cqA, cqB] at g7
    refine zS rfl rfl rfl rfl (zS rfl rfl rfl rfl (zS rfl rfl rfl rfl (zA rfl (qj rfl rfl rfl) (zM rfl rfl rfl (zG rfl rfl rfl rfl (qg rfl qaO rfl) (zG rfl rfl rfl rfl (qr rfl qi rfl rfl rfl rfl rfl) ?_))))))
    refine zG rfl rfl rfl rfl (qN (avs := [_]) true rfl en_show_atom rfl rfl (showAtom_ok g.l h1) (fun _ => rfl) rfl) (zA rfl (qj rfl rfl rfl) (zM rfl rfl rfl (qA 17 rfl (fun g17 => ?_) (fun g17 => ?_))))
    · try simp only [↓cqA, cqB] at g17
      refine zG rfl rfl rfl rfl (qg rfl qa1 rfl) (zG rfl rfl rfl rfl (qr rfl qi rfl rfl rfl rfl rfl) (zG rfl rfl rfl rfl (qN (avs := [_]) true rfl en_show_none rfl rfl (showNone_ok g.r h2) (fun _ => rfl) rfl) (zA rfl (qj rfl rfl rfl) (zN rfl rfl rfl (qc (qa (qd ?_))))))); refine qb ?_
      refine zA rfl (qw rfl qaz rfl rfl rfl rfl) (qC (avs := [_]) true rfl rfl rfl (by decide) qcb rfl rfl (qcp g hg) rfl rfl (zA rfl (qU rfl rfl) (zM rfl rfl rfl (qA 25 rfl (fun g25 => ?_) (fun g25 => ?_)))))
      · try simp only [↓cqA, cqB] at g25
        refine zG rfl rfl rfl rfl (qk (.inl rfl) rfl) (zG rfl rfl rfl rfl (qU rfl rfl) (zA rfl (qj rfl rfl rfl) (zN rfl rfl rfl (qc (qa (qm ?_))))))
        -- leaf g7Tg17Tg25T
        refine ret0 (noL hL) (.inl rfl) (qf rfl (qh)) ?_ ?_
        · rfl
        refine ⟨qW ?_, rfl⟩
        first | (simp_all [okG]; done) | (cases hm : mayT g.l <;> cases hf : qda g.l <;> simp_all [okG])
      try simp only [↓cqA, cqB] at g25
      refine zS rfl rfl rfl rfl (zS rfl rfl rfl rfl (zA rfl (qj rfl rfl rfl) (zN rfl rfl rfl (qc (qa (qm ?_))))))
      -- leaf g7Tg17Tg25F
      refine ret0 (noL hL) (.inl rfl) (qf rfl (qh)) ?_ ?_
      · rfl
      refine ⟨qW ?_, rfl⟩
      first | (simp_all [okG]; done) | (cases hm : mayT g.l <;> cases hf : qda g.l <;> simp_all [okG])
    try simp only [↓cqA, cqB] at g17
    refine zS rfl rfl rfl rfl (zS rfl rfl rfl rfl (zS rfl rfl rfl rfl (zA rfl (qj rfl rfl rfl) (zN rfl rfl rfl (qc (qa (qd ?_))))))); refine qb (zA rfl (qw rfl qaz rfl rfl rfl rfl) ?_)
    refine qC (avs := [_]) true rfl rfl rfl (by decide) qcb rfl rfl (qcp g hg) rfl rfl (zA rfl (qU rfl rfl) (zM rfl rfl rfl (qA 25 rfl (fun g25 => ?_) (fun g25 => ?_))))
    · try simp only [↓cqA, cqB] at g25
      refine zG rfl rfl rfl rfl (qk (.inl rfl) rfl) (zG rfl rfl rfl rfl (qU rfl rfl) (zA rfl (qj rfl rfl rfl) (zN rfl rfl rfl (qc (qa (qm ?_))))))
      -- leaf g7Tg17Fg25T
      refine ret0 (noL hL) (.inl rfl) (qf rfl (qh)) ?_ ?_
      · rfl
      refine ⟨qW ?_, rfl⟩
      first | (simp_all [okG]; done) | (cases hm : mayT g.l <;> cases hf : qda g.l <;> simp_all [okG])
    try simp only [↓cqA, cqB] at g25
    refine zS rfl rfl rfl rfl (zS rfl rfl rfl rfl (zA rfl (qj rfl rfl rfl) (zN rfl rfl rfl (qc (qa (qm ?_))))))
    -- leaf g7Tg17Fg25F
    refine ret0 (noL hL) (.inl rfl) (qf rfl (qh)) ?_ ?_
    · rfl
    refine ⟨qW ?_, rfl⟩
    first | (simp_all [okG]; done) | (cases hm : mayT g.l <;> cases hf : qda g.l <;> simp_all [okG])
  try simp only [↓cqA, cqB] at g7
  refine zG rfl rfl rfl rfl (qg rfl qaS rfl) (zG rfl rfl rfl rfl (qr rfl qay rfl rfl rfl rfl rfl) (zG rfl rfl rfl rfl (qn rfl rfl rfl rfl) (zA rfl (qj rfl rfl rfl) (zM rfl rfl rfl (qA 12 rfl (fun g12 => ?_) (fun g12 => ?_))))))
  · try simp only [↓cqA, cqB] at g12
    refine zG rfl rfl rfl rfl (qg rfl qaO rfl) (zG rfl rfl rfl rfl (qr rfl qi rfl rfl rfl rfl rfl) (zG rfl rfl rfl rfl (qN (avs := [_]) true rfl en_show_atom rfl rfl (showAtom_ok g.l h1) (fun _ => rfl) rfl) (zA rfl (qj rfl rfl rfl) (zM rfl rfl rfl (qA 17 rfl (fun g17 => ?_) (fun g17 => ?_))))))
    · try simp only [↓cqA, cqB] at g17
      refine zG rfl rfl rfl rfl (qg rfl qa1 rfl) (zG rfl rfl rfl rfl (qr rfl qi rfl rfl rfl rfl rfl) (zG rfl rfl rfl rfl (qN (avs := [_]) true rfl en_show_none rfl rfl (showNone_ok g.r h2) (fun _ => rfl) rfl) (zA rfl (qj rfl rfl rfl) (zN rfl rfl rfl (qc (qa (qd ?_))))))); refine qb ?_
      refine zA rfl (qw rfl qaz rfl rfl rfl rfl) (qC (avs := [_]) true rfl rfl rfl (by decide) qcb rfl rfl (qcp g hg) rfl rfl (zA rfl (qU rfl rfl) (zM rfl rfl rfl (qA 25 rfl (fun g25 => ?_) (fun g25 => ?_)))))
      · try simp only [↓cqA, cqB] at g25
        refine zG rfl rfl rfl rfl (qk (.inl rfl) rfl) (zG rfl rfl rfl rfl (qU rfl rfl) (zA rfl (qj rfl rfl rfl) (zN rfl rfl rfl (qc (qa (qm ?_))))))
        -- leaf g7Fg12Tg17Tg25T
        refine ret0 (noL hL) (.inl rfl) (qf rfl (qh)) ?_ ?_
        · rfl
        refine ⟨qW ?_, rfl⟩
        first | (simp_all [okG]; done) | (cases hm : mayT g.l <;> cases hf : qda g.l <;> simp_all [okG])
      try simp only [↓cqA, cqB] at g25
      refine zS rfl rfl rfl rfl (zS rfl rfl rfl rfl (zA rfl (qj rfl rfl rfl) (zN rfl rfl rfl (qc (qa (qm ?_))))))
      -- leaf g7Fg12Tg17Tg25F
      refine ret0 (noL hL) (.inl rfl) (qf rfl (qh)) ?_ ?_
      · rfl
      refine ⟨qW ?_, rfl⟩
      first | (simp_all [okG]; done) | (cases hm : mayT g.l <;> cases hf : qda g.l <;> simp_all [okG])
    try simp only [↓cqA, cqB] at g17
    refine zS rfl rfl rfl rfl (zS rfl rfl rfl rfl (zS rfl rfl rfl rfl (zA rfl (qj rfl rfl rfl) (zN rfl rfl rfl (qc (qa (qd ?_))))))); refine qb (zA rfl (qw rfl qaz rfl rfl rfl rfl) ?_)
    refine qC (avs := [_]) true rfl rfl rfl (by decide) qcb rfl rfl (qcp g hg) rfl rfl (zA rfl (qU rfl rfl) (zM rfl rfl rfl (qA 25 rfl (fun g25 => ?_) (fun g25 => ?_))))
    · try simp only [↓cqA, cqB] at g25
      refine zG rfl rfl rfl rfl (qk (.inl rfl) rfl) (zG rfl rfl rfl rfl (qU rfl rfl) (zA rfl (qj rfl rfl rfl) (zN rfl rfl rfl (qc (qa (qm ?_))))))
      -- leaf g7Fg12Tg17Fg25T
      refine ret0 (noL hL) (.inl rfl) (qf rfl (qh)) ?_ ?_
      · rfl
      refine ⟨qW ?_, rfl⟩
      first | (simp_all [okG]; done) | (cases hm : mayT g.l <;> cases hf : qda g.l <;> simp_all [okG])
    try simp only [↓cqA, cqB] at g25
    refine zS rfl rfl rfl rfl (zS rfl rfl rfl rfl (zA rfl (qj rfl rfl rfl) (zN rfl rfl rfl (qc (qa (qm ?_))))))
    -- leaf g7Fg12Tg17Fg25F
    refine ret0 (noL hL) (.inl rfl) (qf rfl (qh)) ?_ ?_
    · rfl
    refine ⟨qW ?_, rfl⟩
    first | (simp_all [okG]; done) | (cases hm : mayT g.l <;> cases hf : qda g.l <;> simp_all [okG])
  try simp only [↓cqA, cqB] at g12
  refine zS rfl rfl rfl rfl (zS rfl rfl rfl rfl (zS rfl rfl rfl rfl (zA rfl (qj rfl rfl rfl) (zM rfl rfl rfl (zS rfl rfl rfl rfl ?_)))))
  refine zS rfl rfl rfl rfl (zS rfl rfl rfl rfl (zA rfl (qj rfl rfl rfl) (zN rfl rfl rfl (qc (qa (qd (qb ?_))))))); refine zA rfl (qw rfl qaz rfl rfl rfl rfl) ?_
  refine qC (avs := [_]) true rfl rfl rfl (by decide) qcb rfl rfl (qcp g hg) rfl rfl (zA rfl (qU rfl rfl) (zM rfl rfl rfl (qA 25 rfl (fun g25 => ?_) (fun g25 => ?_))))
  · try simp only [↓cqA, cqB] at g25
    refine zG rfl rfl rfl rfl (qk (.inl rfl) rfl) (zG rfl rfl rfl rfl (qU rfl rfl) (zA rfl (qj rfl rfl rfl) (zN rfl rfl rfl (qc (qa (qm ?_))))))
    -- leaf g7Fg12Fg25T
    refine ret0 (noL hL) (.inl rfl) (qf rfl (qh)) ?_ ?_
    · rfl
    refine ⟨qW ?_, rfl⟩
    first | (simp_all [okG]; done) | (cases hm : mayT g.l <;> cases hf : qda g.l <;> simp_all [okG])
  try simp only [↓cqA, cqB] at g25
  refine zS rfl rfl rfl rfl (zS rfl rfl rfl rfl (zA rfl (qj rfl rfl rfl) (zN rfl rfl rfl (qc (qa (qm ?_))))))
  -- leaf g7Fg12Fg25F
  refine ret0 (noL hL) (.inl rfl) (qf rfl (qh)) ?_ ?_
  · rfl
  refine ⟨qW ?_, rfl⟩
  first | (simp_all [okG]; done) | (cases hm : mayT g.l <;> cases hf : qda g.l <;> simp_all [okG])
theorem IndexFunc_gd_ok (B : Bool) (ts : List Gd) (es : List (List D)) (hes : es = ts.map gdD) (hlen : ts.length ≤ 140737488351232) (g : FuncId) (caps : List AV) (hen : qX Tryz.prog g) (Os : Nat → List (Nat × Ob)) (p : Nat → Bool) (hO : Thread B caps Os)
    (hstep : ∀ k u, ts[k]? = some u → (∀ j, j < k → p j = false) → AC Tryz.prog g ((fun g => .agg (lift false (gdD g))) u :: caps) (Os k) (fun r O => r = bv (p k) ∧ O = Os (k + 1))) :
    AC Tryz.prog 216 [.dat false 9 es, .fn g caps] (Os 0) (fun r O => ∃ m n i, m ≤ ts.length ∧ (∀ j, j < m → p j = false) ∧ ((m < ts.length ∧ p m = true ∧ i = (m : Int) ∧ n = m + 1) ∨ (m = ts.length ∧ i = -1 ∧ n = m)) ∧ r = iv i ∧ O = Os n) := by
  have hl : es.length = ts.length := by rw [hes, List.length_map]
  refine qG Tryz.func216 rfl Tryz.ntmps216 (Nat.le_of_ble_eq_true rfl) fun c hL hQ hDD => (qd (qb (zN rfl rfl rfl (qc (qa (qd (qd ?_))))))); refine qb (zM rfl rfl rfl (zA rfl (qy rfl qac rfl) ?_))
  refine zM rfl rfl rfl (qc (qa (qB (qV (ts.length) (fun k => k ≤ ts.length ∧ ∀ j, j < k → p j = false) (fun k => ⟨[(0, .dat false 9 es), (1, .fn g caps), (7, iv es.length), (8, iv (k : Int))], Os k⟩) (⟨by omega, fun j hj => absurd hj (by omega)⟩) ?_ (fun k hk hp => ?_)))))
  · exact qI (SubT.cons (zT rfl) (SubT.cons (zT rfl) (SubT.cons (zT rfl) (SubT.cons (zT rfl) (SubT.nil))))) (fun _ _ h => h) (by simp [allT, AV.allL, hO.all]) (hO.self _) (fun l hl => by rw [hO.dom]; exact (hL l).1 hl)
  refine qd (qb (zA rfl (qn rfl rfl rfl rfl) (qc (qa (qd (qu rfl (fun c0 => ?_) (fun c0 => ?_)))))))
  · try simp only [↓cqA, cqB] at c0
    obtain ⟨u, hu⟩ := qK (l := ts) (k := k) (by omega)
    refine qt (qa (qd (qB (qd (qb (zM rfl rfl rfl (zN rfl rfl rfl ?_))))))); refine qc (qa (qd (qb (zM rfl rfl rfl (zM rfl rfl rfl (zM rfl rfl rfl ?_))))))
    refine zA rfl (qo rfl qac rfl rfl (by omega) (by rw [hes, List.getElem?_map]; exact congrArg (Option.map gdD) hu)) ?_; refine zA rfl (qD rfl qaz rfl rfl) ?_; refine qaN (avs := [_]) B rfl rfl rfl (by decide) hen rfl rfl (hstep k u hu hp.2) (by rw [List.cons_append, List.nil_append]; simp only [AV.cvs, hO.cvs]; rfl) (hO.pass k) (by rintro r O' ⟨_, rfl⟩ l hl; left; rw [hO.dom] at hl ⊢; exact hl) (by rintro hB r O' ⟨rfl, rfl⟩; exact ⟨rfl, hO.q hB _⟩) ?_
    rintro r O' ⟨rfl, rfl⟩
    refine qc (qa (qu rfl (fun c1 => ?_) (fun c1 => ?_)))
    · try simp only [↓cqA, cqB] at c1
      refine qd (qb (zM rfl rfl rfl (zN rfl rfl rfl (qc (qa (qm (qL (ql (ql (qL (ql (?_))))))))))))
      change retQ _ _ _ _ _ _ _
      refine retO (.inl rfl) (qf rfl qh) SubO.left rfl (hO.self _) (fun l hl => by rw [hO.dom]; exact (hL l).1 hl) ?_
      exact ⟨k, _, _, by omega, hp.2, .inl ⟨by omega, c1, rfl, rfl⟩, rfl, rfl⟩
    try simp only [↓cqA, cqB] at c1
    refine qt (qP (qa (qb (zA rfl (qM rfl rfl rfl (by omega)) (zM rfl rfl rfl (qc (qa ?_))))))); refine ⟨?_, ?_, ?_⟩
    · skip
      omega
    · skip
      refine ⟨by omega, fun j hj => ?_⟩
      by_cases hjk : j < k
      · exact hp.2 j hjk
      · rw [show j = k by omega]; exact c1
    exact qI (SubT.cons (zT rfl) (SubT.cons (zT rfl) (SubT.cons (zT rfl) (SubT.cons (zT rfl) (SubT.nil))))) (SubO.left) (by simp [allT, AV.allL, hO.all]) (hO.self _) (fun l hl => by rw [hO.dom]; exact (hL l).1 hl)
  try simp only [↓cqA, cqB] at c0
  refine qQ (qq (qq (q7 ?_))); refine qa (qd (qb (zN rfl rfl rfl (qc (qa (qm ?_))))))
  change retQ _ _ _ _ _ _ _
  refine retO (.inl rfl) (qf rfl qh) (fun _ _ h => h) rfl (hO.self _) (fun l hl => by rw [hO.dom]; exact (hL l).1 hl) ?_
  exact ⟨k, _, _, by omega, hp.2, .inr ⟨by omega, rfl, rfl⟩, rfl, rfl⟩
theorem ContainsFunc_gd_ok (B : Bool) (ts : List Gd) (es : List (List D)) (hes : es = ts.map gdD) (hlen : ts.length ≤ 140737488351232) (g : FuncId) (caps : List AV) (hen : qX Tryz.prog g) (Os : Nat → List (Nat × Ob)) (p : Nat → Bool) (hO : Thread B caps Os)
    (hstep : ∀ k u, ts[k]? = some u → (∀ j, j < k → p j = false) → AC Tryz.prog g ((fun g => .agg (lift false (gdD g))) u :: caps) (Os k) (fun r O => r = bv (p k) ∧ O = Os (k + 1))) :
    AC Tryz.prog 169 [.dat false 9 es, .fn g caps] (Os 0) (fun r O => ∃ m n b, m ≤ ts.length ∧ (∀ j, j < m → p j = false) ∧ ((m < ts.length ∧ p m = true ∧ b = true ∧ n = m + 1) ∨ (m = ts.length ∧ b = false ∧ n = m)) ∧ r = bv b ∧ O = Os n) := by
  refine qG Tryz.func169 rfl Tryz.ntmps169 (Nat.le_of_ble_eq_true rfl) fun c hL hQ hDD => (qd (qb (zN rfl rfl rfl (qc (qa (qd (qb ?_))))))); refine zM rfl rfl rfl (zM rfl rfl rfl ?_)
  refine qaN (avs := [_, _]) B rfl rfl rfl (by decide) qct rfl rfl (IndexFunc_gd_ok B ts es hes hlen g caps hen Os p hO hstep) (by simp only [List.append_nil, AV.cvs, AV.cv, hO.cvs]; rfl) (hO.pass 0) (by rintro r O' ⟨m, n, i, _, _, _, _, rfl⟩ l hl; left; rw [hO.dom] at hl ⊢; exact hl) (by rintro hB r O' ⟨m, n, i, _, _, _, rfl, rfl⟩; exact ⟨rfl, hO.q hB _⟩) ?_
  rintro r O' ⟨m, n, i, hm, hf, hc, rfl, rfl⟩
  refine zA rfl (qn rfl rfl rfl rfl) (zN rfl rfl rfl (qc (qa (qm ?_))))
  -- leaf 
  change retQ _ _ _ _ _ _ _
  refine retO (.inl rfl) (qf rfl qh) SubO.left rfl (hO.self _) (fun l hl => by rw [hO.dom]; exact (hL l).1 hl) ?_; refine ⟨m, n, _, hm, hf, ?_, rfl, rfl⟩
  rcases hc with ⟨h1, h2, rfl, h3⟩ | ⟨h1, rfl, h3⟩
  · exact .inl ⟨h1, h2, by simp, h3⟩
  · exact .inr ⟨h1, by simp, h3⟩
def okGs (l : List Gd) : Bool := decide (l.length ≤ 4) && l.all okG
theorem showGuards_ok (l : List Gd) (hl : qbD l) (hw : ∀ g ∈ l, g.wf) : PF 110 [.dat false 9 (gdDs l)] (bv (okGs l)) := by
  have hlen := qbU l
  simp only [qbD] at hl
  refine qG Tryz.func110 rfl Tryz.ntmps110 (Nat.le_of_ble_eq_true rfl) fun c hL hQ hDD => (qd (qb (zN rfl rfl rfl (qc (qa (qd (qb ?_))))))); refine zN rfl rfl rfl (qc (qa (qd (qb (zM rfl rfl rfl (zA rfl (qy rfl qac rfl) ?_))))))
  refine zA rfl (qn rfl rfl rfl rfl) (zM rfl rfl rfl (qA 7 rfl (fun g7 => ?_) (fun g7 => ?_)))
  · try simp only [↓cqA, cqB] at g7
    refine zG rfl rfl rfl rfl (qk (.inl rfl) rfl) (zG rfl rfl rfl rfl (qk (.inl rfl) rfl) ?_)
    refine awps_gcallP (avs := [_, _]) false rfl rfl rfl (by decide) rfl rfl (by decide) qca rfl rfl (ContainsFunc_gd_ok false l _ rfl (by omega) _ [] en_show_Guards_1 (fun _ => []) (fun k => match l[k]? with | some g => !(okG g) | none => false) ⟨fun k l => rfl, fun k => passO .nil, fun k => rfl, fun k => rfl, fun k => rfl, fun k => rfl, fun h => by cases h⟩ (fun k g hg _ => by rw [hg]; exact showGuards1_ok g (hw g (List.mem_of_getElem? hg)))) (rfl) (passO .nil) (by rintro r O' ⟨m, n, b, _, _, _, _, rfl⟩; exact frB rfl) (by rintro h; cases h) ?_
    rintro r O' ⟨m, n, b, hm1, hf1, hc, rfl, rfl⟩
    refine zG rfl rfl rfl rfl (qU rfl rfl) (zA rfl (qj rfl rfl rfl) (zN rfl rfl rfl (qc (qa (qm ?_)))))
    -- leaf g7T
    refine ret0 (noL hL) (.inl rfl) (qf rfl (qh)) ?_ ?_
    · rfl
    refine ⟨qW ?_, rfl⟩
    first
      | (have hall : b = !(l.all okG) := by
           rcases hc with ⟨h1, h2, rfl, _⟩ | ⟨h1, rfl, _⟩
           · obtain ⟨x, hx⟩ := qK (l := l) (k := m) h1
             simp only [hx] at h2
             symm; rw [Bool.not_eq_true']
             exact List.all_eq_false.2 ⟨x, List.mem_of_getElem? hx, by simpa using h2⟩
           · symm; rw [Bool.not_eq_false']
             refine List.all_eq_true.2 fun x hx => ?_
             obtain ⟨j, hj⟩ := List.getElem?_of_mem hx
             have := hf1 j (by rw [h1]; exact (List.getElem?_eq_some_iff.1 hj).1)
             simp only [hj] at this
             simpa using this
         rw [hall, okGs, decide_eq_true (by omega)]; simp)
      | (rw [okGs, decide_eq_false (by omega)]; rfl)
  try simp only [↓cqA, cqB] at g7
  refine zS rfl rfl rfl rfl (zS rfl rfl rfl rfl (zS rfl rfl rfl rfl (zS rfl rfl rfl rfl (zA rfl (qj rfl rfl rfl) (zN rfl rfl rfl (qc (qa ?_))))))); refine qm ?_
  -- leaf g7F
  refine ret0 (noL hL) (.inl rfl) (qf rfl (qh)) ?_ ?_
  · rfl
  refine ⟨qW ?_, rfl⟩
  first
    | (have hall : b = !(l.all okG) := by
         rcases hc with ⟨h1, h2, rfl, _⟩ | ⟨h1, rfl, _⟩
         · obtain ⟨x, hx⟩ := qK (l := l) (k := m) h1
           simp only [hx] at h2
           symm; rw [Bool.not_eq_true']
           exact List.all_eq_false.2 ⟨x, List.mem_of_getElem? hx, by simpa using h2⟩
         · symm; rw [Bool.not_eq_false']
           refine List.all_eq_true.2 fun x hx => ?_
           obtain ⟨j, hj⟩ := List.getElem?_of_mem hx
           have := hf1 j (by rw [h1]; exact (List.getElem?_eq_some_iff.1 hj).1)
           simp only [hj] at this
           simpa using this
       rw [hall, okGs, decide_eq_true (by omega)]; simp)
    | (rw [okGs, decide_eq_false (by omega)]; rfl)
def qbi (k : List Tm) (i : Nat) : Bool := match k[i]? with
  | some t => mayT t && qda t && qbh t && (decide (i = 0) || match k[i - 1]? with | some u => decide (cmpT 5 u t < 0) | none => true)
  | none => true
def qbq (k : List Tm) : Bool := decide (k.length ≤ 60) && (List.range k.length).all (qbi k)
theorem knownAtoms_ok (l : List Tm) (hl : qbD l) (hw : Tm.wfs l) : PF 109 [.dat false 4 (tmDs l)] (bv (qbq l)) := by
  have hlen := qaa l
  simp only [qbD] at hl
  refine qG Tryz.func109 rfl Tryz.ntmps109 (Nat.le_of_ble_eq_true rfl) fun c hL hQ hDD => (qd (qb (zN rfl rfl rfl (qc (qa (qd (qd ?_))))))); refine qb (zM rfl rfl rfl (zA rfl (qy rfl qv rfl) ?_))
  refine zA rfl (qn rfl rfl rfl rfl) (qc (qa (qu rfl (fun c0 => ?_) (fun c0 => ?_))))
  · try simp only [↓cqA, cqB] at c0
    refine qd (qb (zN rfl rfl rfl (qc (qa (qm (ql (?_)))))))
    -- leaf 0T
    refine ret0 (noL hL) (.inl rfl) (qf rfl (qh)) ?_ ?_
    · rfl
    refine ⟨qW ?_, rfl⟩
    rw [qbq, decide_eq_false (by omega)]; rfl
  try simp only [↓cqA, cqB] at c0
  refine qt (qa (qd (qd (qb (zM rfl rfl rfl (zA rfl (qy rfl qv rfl) (zM rfl rfl rfl ?_))))))); refine qc (qa (qB ?_))
  refine qV (l.length) (fun k => k ≤ l.length ∧ ∀ j, j < k → qbi l j = true) (fun k => ⟨[(0, .dat false 4 (tmDs l)), (8, .dat false 4 (tmDs l)), (9, iv (tmDs l).length), (10, iv (k : Int))], []⟩) (⟨by omega, fun j hj => absurd hj (by omega)⟩) ?_ (fun k hk hp => ?_)
  · exact qI (SubT.cons (zT rfl) (SubT.cons (zT rfl) (SubT.cons (zT rfl) (SubT.cons (zT rfl) (SubT.nil))))) (SubO.nil) rfl rfl (noL' (noL hL) _)
  refine qd (qb (zA rfl (qn rfl rfl rfl rfl) (qc (qa (qd (qu rfl (fun c1 => ?_) (fun c1 => ?_)))))))
  · try simp only [↓cqA, cqB] at c1
    obtain ⟨u, hu⟩ := qK (l := l) (k := k) (by omega)
    have huw := Tm.wfs_get hw hu
    refine qt (qa (qd (qB (qd (qb (zM rfl rfl rfl (zA rfl (qo rfl qv rfl rfl (by omega) (qax hu)) ?_))))))); refine zA rfl (qD rfl qi rfl rfl) ?_
    refine qz rfl rfl (by decide) (qaf 4 rfl q6 rfl) rfl (zN rfl rfl rfl (qO rfl rfl rfl qi rfl rfl rfl rfl rfl rfl rfl rfl rfl (qc (qa (qd ?_)))))
    rcases Bool.eq_false_or_eq_true (mayT u) with l16 | l16
    · have m16 := l16
      try simp only [↓cqA, cqB] at m16
      rcases Bool.eq_false_or_eq_true (qda u) with l20 | l20
      · have m20 := l20
        try simp only [↓cqA, cqB] at m20
        rcases Bool.eq_false_or_eq_true (qbh u) with l25 | l25
        · have m25 := l25
          try simp only [↓cqA, cqB] at m25
          rcases Bool.eq_false_or_eq_true (decide ((k : Int) > 0)) with l30 | l30
          · have m30 := l30
            try simp only [↓cqA, cqB] at m30
            obtain ⟨v, hv⟩ := qK (l := l) (k := ((k : Int) - 1).toNat) (by omega)
            have hv2 : l[k - 1]? = some v := by rw [show k - 1 = ((k : Int) - 1).toNat by omega]; exact hv
            have hvw := Tm.wfs_get hw hv
            have hvk := hp.2 (k - 1) (by omega)
            have hvm : mayT v = true := by
              simp only [qbi, hv2, Bool.and_eq_true] at hvk
              exact hvk.1.1.1
            have hke : qbi l k = decide (cmpT 5 v u < 0) := by
              simp only [qbi, hu, hv2]
              simp [m16, m20, m25, show ¬ k = 0 by omega]
            refine q8 23 qbd rfl rfl rfl rfl ?_; refine qe rfl (by decide) (.run rfl (qw rfl qi rfl rfl rfl rfl)) ?_; refine qe rfl (by decide) (.run rfl (qN (avs := [_]) true rfl qa2 rfl rfl (by have hh := May_ok u huw; rw [l16] at hh; exact hh) (fun _ => rfl) rfl)) ?_; refine qe rfl (by decide) (.run rfl (qU rfl rfl)) ?_; refine qe rfl (by decide) (.run rfl (qk (.inl rfl) rfl)) ?_; refine qe rfl (by decide) (.want rfl rfl rfl (by decide) (qw rfl qi rfl rfl rfl rfl)) ?_
            refine qe rfl (by decide) (.want rfl rfl rfl (by decide) (qN (avs := [_]) true rfl qcY rfl rfl (by have hh := Flat_ok u (qa6 m16).1 huw; rw [l20] at hh; exact hh) (fun _ => rfl) rfl)) ?_; refine qe rfl (by decide) (.want rfl rfl rfl (by decide) (qU rfl rfl)) ?_; refine qe rfl (by decide) (.run rfl (qj rfl rfl rfl)) ?_; refine qe rfl (by decide) (.run rfl (qk (.inl rfl) rfl)) ?_; refine qe rfl (by decide) (.want rfl rfl rfl (by decide) (qw rfl qi rfl rfl rfl rfl)) ?_
            refine qe rfl (by decide) (.want rfl rfl rfl (by decide) (qN (avs := [_]) true rfl en_term_Is rfl rfl (by have hh := Is_ok u huw m16; rw [l25] at hh; exact hh) (fun _ => rfl) rfl)) ?_; refine qe rfl (by decide) (.want rfl rfl rfl (by decide) (qU rfl rfl)) ?_; refine qe rfl (by decide) (.run rfl (qj rfl rfl rfl)) ?_
            refine qe rfl (by decide) (.run rfl (qk (.inl rfl) rfl)) (qe rfl (by decide) (.want rfl rfl rfl (by decide) (qk (.inl rfl) rfl)) (qe rfl (by decide) (.want rfl rfl rfl (by decide) (qn (r := .bool true) rfl rfl rfl (congrArg (fun b => some (Value.bool b)) l30))) ?_))
            refine qe rfl (by decide) (.want rfl rfl rfl (by decide) (qk (.inl rfl) rfl)) (qe rfl (by decide) (.want rfl rfl rfl (by decide) (qk (.inl rfl) rfl)) (qe rfl (by decide) (.want rfl rfl rfl (by decide) (qk (.inl rfl) rfl)) (qe rfl (by decide) (.want rfl rfl rfl (by decide) (stp_sub rfl rfl rfl (by omega))) (qe rfl (by decide) (.want rfl rfl rfl (by decide) (qo rfl qv rfl rfl (by omega) (qax hv))) ?_))))
            refine qe rfl (by decide) (.want rfl rfl rfl (by decide) (qD rfl qi rfl rfl)) (qe rfl (by decide) (.want rfl rfl rfl (by decide) (qw rfl qi rfl rfl rfl rfl)) (qau ⟨rfl, rfl, ?_⟩)); refine zG rfl rfl rfl rfl (qN (avs := [_, _]) true rfl qcs rfl rfl (Compare_ok 5 v u (qa6 hvm).1 hvw huw) (fun _ => rfl) rfl) (zG rfl rfl rfl rfl (qn rfl rfl rfl rfl) ?_)
            refine zG rfl rfl rfl rfl (qj rfl rfl rfl) (zA rfl (qj rfl rfl rfl) (qc (qa (qu rfl (fun c2 => ?_) (fun c2 => ?_)))))
            · try simp only [↓cqA, cqB] at c2
              refine qd (qb (zN rfl rfl rfl (qc (qa (qm (qL (ql (ql (qL (ql (?_)))))))))))
              -- leaf 0F1Tl16Tl20Tl25Tl30T2T
              refine ret0 (noL hL) (.inl rfl) (qf rfl (qh)) ?_ ?_
              · rfl
              refine ⟨qW ?_, rfl⟩
              first
                | (rw [qbq, decide_eq_false (by omega)]; rfl)
                | (have hno : qbi l k = false := by
                     first
                       | exact hbad
                       | (rw [hke]; simp; omega)
                   have : (List.range l.length).all (qbi l) = false := List.all_eq_false.2 ⟨k, List.mem_range.2 (by omega), by simp [hno]⟩
                   rw [qbq, this, Bool.and_false])
                | (have : (List.range l.length).all (qbi l) = true := List.all_eq_true.2 fun j hj => hp.2 j (by have := List.mem_range.1 hj; omega)
                   rw [qbq, this, decide_eq_true (by omega)]; rfl)
            try simp only [↓cqA, cqB] at c2
            refine qt (qP (qa (qb (zA rfl (qM rfl rfl rfl (by omega)) (zM rfl rfl rfl (qc (qa ?_))))))); refine ⟨?_, ?_, ?_⟩
            · skip
              omega
            · skip
              refine ⟨by omega, fun j hj => ?_⟩
              by_cases hjk : j < k
              · exact hp.2 j hjk
              · rw [show j = k by omega]
                first
                  | exact hgood
                  | (rw [hke]; simp; omega)
            exact qI (SubT.cons (zT rfl) (SubT.cons (zT rfl) (SubT.cons (zT rfl) (SubT.cons (zT rfl) (SubT.nil))))) (SubO.nil) rfl rfl (noL' (noL hL) _)
          have m30 := l30
          try simp only [↓cqA, cqB] at m30
          have hgood : qbi l k = true := by
            have h0 : k = 0 := by omega
            simp only [qbi, hu]; simp [m16, m20, m25, h0]
          refine q8 23 qbd rfl rfl rfl rfl ?_; refine qe rfl (by decide) (.run rfl (qw rfl qi rfl rfl rfl rfl)) ?_; refine qe rfl (by decide) (.run rfl (qN (avs := [_]) true rfl qa2 rfl rfl (by have hh := May_ok u huw; rw [l16] at hh; exact hh) (fun _ => rfl) rfl)) ?_; refine qe rfl (by decide) (.run rfl (qU rfl rfl)) ?_; refine qe rfl (by decide) (.run rfl (qk (.inl rfl) rfl)) ?_; refine qe rfl (by decide) (.want rfl rfl rfl (by decide) (qw rfl qi rfl rfl rfl rfl)) ?_
          refine qe rfl (by decide) (.want rfl rfl rfl (by decide) (qN (avs := [_]) true rfl qcY rfl rfl (by have hh := Flat_ok u (qa6 m16).1 huw; rw [l20] at hh; exact hh) (fun _ => rfl) rfl)) ?_; refine qe rfl (by decide) (.want rfl rfl rfl (by decide) (qU rfl rfl)) ?_; refine qe rfl (by decide) (.run rfl (qj rfl rfl rfl)) ?_; refine qe rfl (by decide) (.run rfl (qk (.inl rfl) rfl)) ?_; refine qe rfl (by decide) (.want rfl rfl rfl (by decide) (qw rfl qi rfl rfl rfl rfl)) ?_
          refine qe rfl (by decide) (.want rfl rfl rfl (by decide) (qN (avs := [_]) true rfl en_term_Is rfl rfl (by have hh := Is_ok u huw m16; rw [l25] at hh; exact hh) (fun _ => rfl) rfl)) ?_; refine qe rfl (by decide) (.want rfl rfl rfl (by decide) (qU rfl rfl)) ?_; refine qe rfl (by decide) (.run rfl (qj rfl rfl rfl)) ?_
          refine qe rfl (by decide) (.run rfl (qk (.inl rfl) rfl)) (qe rfl (by decide) (.want rfl rfl rfl (by decide) (qk (.inl rfl) rfl)) (qe rfl (by decide) (.want rfl rfl rfl (by decide) (qn (r := .bool false) rfl rfl rfl (congrArg (fun b => some (Value.bool b)) l30))) ?_))
          refine qe rfl (by decide) (.want rfl rfl rfl (by decide) (qk (.inl rfl) rfl)) (qe rfl (by decide) (.skip rfl rfl rfl (by decide) (by decide)) (qe rfl (by decide) (.skip rfl rfl rfl (by decide) (by decide)) (qe rfl (by decide) (.skip rfl rfl rfl (by decide) (by decide)) ?_)))
          refine qe rfl (by decide) (.skip rfl rfl rfl (by decide) (by decide)) (qe rfl (by decide) (.skip rfl rfl rfl (by decide) (by decide)) (qe rfl (by decide) (.skip rfl rfl rfl (by decide) (by decide)) (qau ⟨rfl, rfl, ?_⟩))); refine zS rfl rfl rfl rfl ?_
          refine zS rfl rfl rfl rfl (zG rfl rfl rfl rfl (qj rfl rfl rfl) (zA rfl (qj rfl rfl rfl) (qc (qa (qas rfl (qt (qP ?_))))))); refine qa (qb (zA rfl (qM rfl rfl rfl (by omega)) (zM rfl rfl rfl (qc (qa ?_))))); refine ⟨?_, ?_, ?_⟩
          · skip
            omega
          · skip
            refine ⟨by omega, fun j hj => ?_⟩
            by_cases hjk : j < k
            · exact hp.2 j hjk
            · rw [show j = k by omega]
              first
                | exact hgood
                | (rw [hke]; simp; omega)
          exact qI (SubT.cons (zT rfl) (SubT.cons (zT rfl) (SubT.cons (zT rfl) (SubT.cons (zT rfl) (SubT.nil))))) (SubO.nil) rfl rfl (noL' (noL hL) _)
        have m25 := l25
        try simp only [↓cqA, cqB] at m25
        have hbad : qbi l k = false := by simp only [qbi, hu]; simp [m25]
        refine q8 23 qbd rfl rfl rfl rfl ?_; refine qe rfl (by decide) (.run rfl (qw rfl qi rfl rfl rfl rfl)) ?_; refine qe rfl (by decide) (.run rfl (qN (avs := [_]) true rfl qa2 rfl rfl (by have hh := May_ok u huw; rw [l16] at hh; exact hh) (fun _ => rfl) rfl)) ?_; refine qe rfl (by decide) (.run rfl (qU rfl rfl)) ?_; refine qe rfl (by decide) (.run rfl (qk (.inl rfl) rfl)) ?_; refine qe rfl (by decide) (.want rfl rfl rfl (by decide) (qw rfl qi rfl rfl rfl rfl)) ?_
        refine qe rfl (by decide) (.want rfl rfl rfl (by decide) (qN (avs := [_]) true rfl qcY rfl rfl (by have hh := Flat_ok u (qa6 m16).1 huw; rw [l20] at hh; exact hh) (fun _ => rfl) rfl)) ?_; refine qe rfl (by decide) (.want rfl rfl rfl (by decide) (qU rfl rfl)) ?_; refine qe rfl (by decide) (.run rfl (qj rfl rfl rfl)) ?_; refine qe rfl (by decide) (.run rfl (qk (.inl rfl) rfl)) ?_; refine qe rfl (by decide) (.want rfl rfl rfl (by decide) (qw rfl qi rfl rfl rfl rfl)) ?_
        refine qe rfl (by decide) (.want rfl rfl rfl (by decide) (qN (avs := [_]) true rfl en_term_Is rfl rfl (by have hh := Is_ok u huw m16; rw [l25] at hh; exact hh) (fun _ => rfl) rfl)) ?_; refine qe rfl (by decide) (.want rfl rfl rfl (by decide) (qU rfl rfl)) ?_; refine qe rfl (by decide) (.run rfl (qj rfl rfl rfl)) ?_
        refine qe rfl (by decide) (.run rfl (qk (.inl rfl) rfl)) (qe rfl (by decide) (.skip rfl rfl rfl (by decide) (by decide)) (qe rfl (by decide) (.skip rfl rfl rfl (by decide) (by decide)) (qe rfl (by decide) (.skip rfl rfl rfl (by decide) (by decide)) (qe rfl (by decide) (.skipu rfl rfl rfl (by decide)) ?_))))
        refine qe rfl (by decide) (.skipu rfl rfl rfl (by decide)) (qe rfl (by decide) (.skipu rfl rfl rfl (by decide)) (qe rfl (by decide) (.skipu rfl rfl rfl (by decide)) (qe rfl (by decide) (.skipu rfl rfl rfl (by decide)) (qe rfl (by decide) (.skipu rfl rfl rfl (by decide)) (qau ⟨rfl, rfl, ?_⟩)))))
        refine qaG rfl rfl rfl (by decide) rfl (by decide) (qaG rfl rfl rfl (by decide) rfl (by decide) (zS rfl rfl rfl rfl (zA rfl (qj rfl rfl rfl) (qc (qa (qaj rfl (qd ?_))))))); refine qb (zN rfl rfl rfl (qc (qa (qm (qL (ql (ql (qL (ql (?_))))))))))
        -- leaf 0F1Tl16Tl20Tl25F
        refine ret0 (noL hL) (.inl rfl) (qf rfl (qh)) ?_ ?_
        · rfl
        refine ⟨qW ?_, rfl⟩
        first
          | (rw [qbq, decide_eq_false (by omega)]; rfl)
          | (have hno : qbi l k = false := by
               first
                 | exact hbad
                 | (rw [hke]; simp; omega)
             have : (List.range l.length).all (qbi l) = false := List.all_eq_false.2 ⟨k, List.mem_range.2 (by omega), by simp [hno]⟩
             rw [qbq, this, Bool.and_false])
          | (have : (List.range l.length).all (qbi l) = true := List.all_eq_true.2 fun j hj => hp.2 j (by have := List.mem_range.1 hj; omega)
             rw [qbq, this, decide_eq_true (by omega)]; rfl)
      have m20 := l20
      try simp only [↓cqA, cqB] at m20
      have hbad : qbi l k = false := by simp only [qbi, hu]; simp [m20]
      refine q8 23 qbd rfl rfl rfl rfl ?_; refine qe rfl (by decide) (.run rfl (qw rfl qi rfl rfl rfl rfl)) ?_; refine qe rfl (by decide) (.run rfl (qN (avs := [_]) true rfl qa2 rfl rfl (by have hh := May_ok u huw; rw [l16] at hh; exact hh) (fun _ => rfl) rfl)) ?_; refine qe rfl (by decide) (.run rfl (qU rfl rfl)) ?_; refine qe rfl (by decide) (.run rfl (qk (.inl rfl) rfl)) ?_; refine qe rfl (by decide) (.want rfl rfl rfl (by decide) (qw rfl qi rfl rfl rfl rfl)) ?_
      refine qe rfl (by decide) (.want rfl rfl rfl (by decide) (qN (avs := [_]) true rfl qcY rfl rfl (by have hh := Flat_ok u (qa6 m16).1 huw; rw [l20] at hh; exact hh) (fun _ => rfl) rfl)) ?_; refine qe rfl (by decide) (.want rfl rfl rfl (by decide) (qU rfl rfl)) ?_; refine qe rfl (by decide) (.run rfl (qj rfl rfl rfl)) ?_
      refine qe rfl (by decide) (.run rfl (qk (.inl rfl) rfl)) (qe rfl (by decide) (.skip rfl rfl rfl (by decide) (by decide)) (qe rfl (by decide) (.skip rfl rfl rfl (by decide) (by decide)) (qe rfl (by decide) (.skip rfl rfl rfl (by decide) (by decide)) (qe rfl (by decide) (.run rfl (qj rfl rfl rfl)) ?_))))
      refine qe rfl (by decide) (.run rfl (qk (.inl rfl) rfl)) (qe rfl (by decide) (.skip rfl rfl rfl (by decide) (by decide)) (qe rfl (by decide) (.skip rfl rfl rfl (by decide) (by decide)) (qe rfl (by decide) (.skip rfl rfl rfl (by decide) (by decide)) (qe rfl (by decide) (.skipu rfl rfl rfl (by decide)) ?_))))
      refine qe rfl (by decide) (.skipu rfl rfl rfl (by decide)) (qe rfl (by decide) (.skipu rfl rfl rfl (by decide)) (qe rfl (by decide) (.skipu rfl rfl rfl (by decide)) (qe rfl (by decide) (.skipu rfl rfl rfl (by decide)) (qe rfl (by decide) (.skipu rfl rfl rfl (by decide)) (qau ⟨rfl, rfl, ?_⟩)))))
      refine qaG rfl rfl rfl (by decide) rfl (by decide) (qaG rfl rfl rfl (by decide) rfl (by decide) (zS rfl rfl rfl rfl (zA rfl (qj rfl rfl rfl) (qc (qa (qaj rfl (qd ?_))))))); refine qb (zN rfl rfl rfl (qc (qa (qm (qL (ql (ql (qL (ql (?_))))))))))
      -- leaf 0F1Tl16Tl20F
      refine ret0 (noL hL) (.inl rfl) (qf rfl (qh)) ?_ ?_
      · rfl
      refine ⟨qW ?_, rfl⟩
      first
        | (rw [qbq, decide_eq_false (by omega)]; rfl)
        | (have hno : qbi l k = false := by
             first
               | exact hbad
               | (rw [hke]; simp; omega)
           have : (List.range l.length).all (qbi l) = false := List.all_eq_false.2 ⟨k, List.mem_range.2 (by omega), by simp [hno]⟩
           rw [qbq, this, Bool.and_false])
        | (have : (List.range l.length).all (qbi l) = true := List.all_eq_true.2 fun j hj => hp.2 j (by have := List.mem_range.1 hj; omega)
           rw [qbq, this, decide_eq_true (by omega)]; rfl)
    have m16 := l16
    try simp only [↓cqA, cqB] at m16
    have hbad : qbi l k = false := by simp only [qbi, hu]; simp [m16]
    refine q8 23 qbd rfl rfl rfl rfl ?_; refine qe rfl (by decide) (.run rfl (qw rfl qi rfl rfl rfl rfl)) ?_; refine qe rfl (by decide) (.run rfl (qN (avs := [_]) true rfl qa2 rfl rfl (by have hh := May_ok u huw; rw [l16] at hh; exact hh) (fun _ => rfl) rfl)) ?_; refine qe rfl (by decide) (.run rfl (qU rfl rfl)) ?_; refine qe rfl (by decide) (.run rfl (qk (.inl rfl) rfl)) ?_; refine qe rfl (by decide) (.skip rfl rfl rfl (by decide) (by decide)) ?_
    refine qe rfl (by decide) (.skip rfl rfl rfl (by decide) (by decide)) (qe rfl (by decide) (.skip rfl rfl rfl (by decide) (by decide)) (qe rfl (by decide) (.run rfl (qj rfl rfl rfl)) (qe rfl (by decide) (.run rfl (qk (.inl rfl) rfl)) (qe rfl (by decide) (.skip rfl rfl rfl (by decide) (by decide)) ?_))))
    refine qe rfl (by decide) (.skip rfl rfl rfl (by decide) (by decide)) (qe rfl (by decide) (.skip rfl rfl rfl (by decide) (by decide)) (qe rfl (by decide) (.run rfl (qj rfl rfl rfl)) (qe rfl (by decide) (.run rfl (qk (.inl rfl) rfl)) (qe rfl (by decide) (.skip rfl rfl rfl (by decide) (by decide)) ?_))))
    refine qe rfl (by decide) (.skip rfl rfl rfl (by decide) (by decide)) (qe rfl (by decide) (.skip rfl rfl rfl (by decide) (by decide)) (qe rfl (by decide) (.skipu rfl rfl rfl (by decide)) (qe rfl (by decide) (.skipu rfl rfl rfl (by decide)) (qe rfl (by decide) (.skipu rfl rfl rfl (by decide)) ?_))))
    refine qe rfl (by decide) (.skipu rfl rfl rfl (by decide)) (qe rfl (by decide) (.skipu rfl rfl rfl (by decide)) (qe rfl (by decide) (.skipu rfl rfl rfl (by decide)) (qau ⟨rfl, rfl, ?_⟩))); refine qaG rfl rfl rfl (by decide) rfl (by decide) (qaG rfl rfl rfl (by decide) rfl (by decide) ?_)
    refine zS rfl rfl rfl rfl (zA rfl (qj rfl rfl rfl) (qc (qa (qaj rfl (qd (qb (zN rfl rfl rfl ?_))))))); refine qc (qa (qm (qL (ql (ql (qL (ql (?_))))))))
    -- leaf 0F1Tl16F
    refine ret0 (noL hL) (.inl rfl) (qf rfl (qh)) ?_ ?_
    · rfl
    refine ⟨qW ?_, rfl⟩
    first
      | (rw [qbq, decide_eq_false (by omega)]; rfl)
      | (have hno : qbi l k = false := by
           first
             | exact hbad
             | (rw [hke]; simp; omega)
         have : (List.range l.length).all (qbi l) = false := List.all_eq_false.2 ⟨k, List.mem_range.2 (by omega), by simp [hno]⟩
         rw [qbq, this, Bool.and_false])
      | (have : (List.range l.length).all (qbi l) = true := List.all_eq_true.2 fun j hj => hp.2 j (by have := List.mem_range.1 hj; omega)
         rw [qbq, this, decide_eq_true (by omega)]; rfl)
  try simp only [↓cqA, cqB] at c1
  refine qQ (qq (qq (q7 ?_))); refine qa (qd (qb (zN rfl rfl rfl (qc (qa (qm ?_))))))
  -- leaf 0F1F
  refine ret0 (noL hL) (.inl rfl) (qf rfl (qh)) ?_ ?_
  · rfl
  refine ⟨qW ?_, rfl⟩
  first
    | (rw [qbq, decide_eq_false (by omega)]; rfl)
    | (have hno : qbi l k = false := by
         first
           | exact hbad
           | (rw [hke]; simp; omega)
       have : (List.range l.length).all (qbi l) = false := List.all_eq_false.2 ⟨k, List.mem_range.2 (by omega), by simp [hno]⟩
       rw [qbq, this, Bool.and_false])
    | (have : (List.range l.length).all (qbi l) = true := List.all_eq_true.2 fun j hj => hp.2 j (by have := List.mem_range.1 hj; omega)
       rw [qbq, this, decide_eq_true (by omega)]; rfl)
end Go.Proofs.YtdecgkhdbfgldaaGreat

set_option linter.unusedVariables false
set_option linter.unusedSimpArgs false
set_option maxRecDepth 8000
namespace Go.Proofs.YtdecgkhdbfgldaaGreat
open Go
def u8 (n : Int) : UInt8 := UInt8.ofNat (n % 256).toNat
theorem wrap_u8 (n : Int) : IntKind.u8.wrap n = ((u8 n).toNat : Int) := by
  have h1 : 0 ≤ n % 256 := Int.emod_nonneg _ (by decide)
  have h2 : n % 256 < 256 := Int.emod_lt_of_pos _ (by decide)
  have e : IntKind.u8.wrap n = n % 256 := by
    simp [IntKind.wrap, IntKind.signed, IntKind.bits]
  rw [e, u8, UInt8.toNat_ofNat']
  omega
def kq (n : Int) : Int := IntKind.u32.wrap (IntKind.i32.wrap n)
def keyL : Nat → Tm → List UInt8
  | 0, _ => []
  | d + 1, t => [u8 t.kind, u8 t.name.size] ++ t.name.data.toList ++ [u8 (kq t.n / 2 ^ min (24 : Int).toNat IntKind.u32.bits), u8 (kq t.n / 2 ^ min (16 : Int).toNat IntKind.u32.bits), u8 (kq t.n / 2 ^ min (8 : Int).toNat IntKind.u32.bits), u8 (kq t.n), u8 t.args.length] ++ (t.args.map (keyL d)).flatten
theorem shp_name {t : Tm} (h : t.shp) : t.name.size ≤ 16 := by
  have hw : ∀ p, wordB p t.name = true → t.name.size ≤ 16 := fun p hp => by
    simp only [wordB, Bool.and_eq_true, decide_eq_true_eq] at hp
    exact hp.1.1.2
  rcases ((Tm.shp_iff t).1 h).1 with ⟨_, h, _⟩ | ⟨_, _, h, _⟩ | ⟨_, h, _⟩
  · exact hw _ h
  · omega
  · exact hw _ h
theorem keyL_len : ∀ (d : Nat) (t : Tm), t.shp → (keyL d t).length ≤ 23 * t.sz
  | 0, t, _ => by simp [keyL]
  | d + 1, t, h => by
    have hn := shp_name h
    have e : t.name.data.toList.length = t.name.size := by simp
    have key : ∀ l : List Tm, (∀ u ∈ l, u.shp) → (l.map (keyL d)).flatten.length ≤ 23 * (l.map Tm.sz).sum := fun l => by
      induction l with
      | nil => intro _; simp
      | cons a l ih =>
        intro hl
        have h1 := ih fun u hu => hl u (by simp [hu])
        have h2 := keyL_len d a (hl a (by simp))
        simp only [List.map_cons, List.flatten_cons, List.length_append, List.sum_cons]
        omega
    have h3 := key t.args fun u hu => h.arg hu
    rw [Tm.sz_eq, keyL]
    simp only [List.length_append, List.length_cons, List.length_nil, e]
    omega
theorem Key_ok : ∀ (d : Nat) (t : Tm), dle d t → t.shp → t.wf → t.sz ≤ 1000 → PF 195 [tmA false t] (sv ⟨(keyL d t).toArray⟩)
  | 0, t, h, _, _, _ => h.elim
  | d + 1, t, h, hs, ht, hz => by
    have hlen := qaa t.args
    have hal : t.args.length ≤ 4 := by
      rcases ((Tm.shp_iff t).1 hs).1 with ⟨_, _, _, e⟩ | ⟨_, _, _, e⟩ | ⟨_, _, _, e⟩ <;> simp_all
    have hnm := shp_name hs
    have hkl := keyL_len (d + 1) t hs
    have hk2 : (keyL (d + 1) t).length = 7 + t.name.size + ((t.args.map (keyL d)).flatten).length := by
      have e : t.name.data.toList.length = t.name.size := by simp
      rw [keyL]; simp only [List.length_append, List.length_cons, List.length_nil, e]; omega
    have e8 : ∀ l : List UInt8, (ByteArray.mk l.toArray).size = l.length := fun l => by simp [ByteArray.size]
    refine qG Tryz.func195 rfl Tryz.ntmps195 (Nat.le_of_ble_eq_true rfl) fun c hL hQ hDD => (qd (qb (qz rfl rfl (by decide) (qab 1 rfl rfl rfl) rfl (zN rfl rfl rfl (qc (qa (qd ?_))))))); refine qb (zA rfl (qg rfl q9 rfl) (zA rfl (qr rfl qay rfl rfl rfl rfl rfl) (zA rfl (qc5 rfl us_int ul_uint8 rfl) ?_)))
    refine zA rfl (qg rfl qad rfl) (zA rfl (qr rfl qT rfl rfl rfl rfl rfl) (zA rfl (qb5 rfl qaY rfl) (zA rfl (qc5 rfl us_int ul_uint8 rfl) ?_)))
    rw [wrap_u8, wrap_u8]
    refine qz rfl rfl (by decide) (qS 14 rfl sl_S_uint8 zv_uint8 rfl rfl (by decide) (by decide) (by decide) rfl rfl rfl) rfl (qbA 14 false 2 rfl rfl rfl rfl (zN rfl rfl rfl (qc (qa (qd (qb (zM rfl rfl rfl ?_))))))); refine zA rfl (qg rfl qad rfl) (zA rfl (qr rfl qT rfl rfl rfl rfl rfl) ?_)
    refine awps_append_str 18 ta_S_uint8 (by kernel_rfl) qaY rfl rfl (by decide) rfl rfl rfl (noL hL _) rfl rfl (by simp [chunk]; omega) ?_; refine zN rfl rfl rfl ?_; refine qc ?_; refine qa ?_; refine qd ?_; refine qb ?_; refine zA rfl (qg rfl qaB rfl) ?_; refine zA rfl (qr rfl qay rfl rfl rfl rfl rfl) ?_
    refine zA rfl (qc5 rfl us_int ul_int32 rfl) (zA rfl (qc5 rfl us_int32 ul_uint32 rfl) (zN rfl rfl rfl (qc (qa (qd (qb (zM rfl rfl rfl ?_)))))))
    refine zM rfl rfl rfl (zA rfl (stp_shr rfl rfl rfl (by decide)) (zA rfl (qc5 rfl us_uint32 ul_uint8 rfl) (zM rfl rfl rfl (zA rfl (stp_shr rfl rfl rfl (by decide)) ?_))))
    refine zA rfl (qc5 rfl us_uint32 ul_uint8 rfl) (zM rfl rfl rfl (zA rfl (stp_shr rfl rfl rfl (by decide)) (zA rfl (qc5 rfl us_uint32 ul_uint8 rfl) (zM rfl rfl rfl (zA rfl (qc5 rfl us_uint32 ul_uint8 rfl) (zA rfl (qg rfl qJ rfl) ?_))))))
    refine zA rfl (qr rfl qF rfl rfl rfl rfl rfl) (zA rfl (qy rfl qv rfl) (zA rfl (qc5 rfl us_int ul_uint8 rfl) ?_))
    simp only [wrap_u8]
    refine qz rfl rfl (by decide) (qS 39 rfl sl_S_uint8 zv_uint8 rfl rfl (by decide) (by decide) (by decide) rfl rfl rfl) rfl ?_; refine qbA 39 false 5 rfl rfl rfl rfl ?_; refine qdg 40 ta_S_uint8 rfl rfl (by decide) rfl rfl rfl (src_rowd rfl rfl) rfl (fun d hd => by simp only [chunk, List.take, List.drop, List.mem_cons, List.not_mem_nil, or_false] at hd; rcases hd with rfl | rfl | rfl | rfl | rfl <;> rfl) (noL hL _) rfl (by simp [chunk, btL_length]; omega) rfl ?_; refine zN rfl rfl rfl ?_
    refine qc (qa (qd (qd (qb (zA rfl (qg rfl qJ rfl) (zA rfl (qr rfl qF rfl rfl rfl rfl rfl) (zA rfl (qy rfl qv rfl) ?_))))))); refine zM rfl rfl rfl (qc (qa (qB ?_)))
    refine qV (t.args.length) (fun k => k ≤ t.args.length) (fun k => ⟨[(3, .row 3), (42, .dat false 4 (tmDs t.args)), (43, iv (tmDs t.args).length), (44, iv (k : Int))], [(3, .rowd 5 1 false (btL ([u8 t.kind, u8 t.name.size] ++ t.name.data.toList ++ [u8 (kq t.n / 2 ^ min (24 : Int).toNat IntKind.u32.bits), u8 (kq t.n / 2 ^ min (16 : Int).toNat IntKind.u32.bits), u8 (kq t.n / 2 ^ min (8 : Int).toNat IntKind.u32.bits), u8 (kq t.n), u8 t.args.length] ++ ((t.args.take k).map (keyL d)).flatten)))]⟩) (by omega) ?_ (fun k hk hp => ?_)
    · exact Sub.trans (qaE 40 3 (noL hL _) (noL hL _)) (qI (SubT.cons (zT rfl) (SubT.cons (zT rfl) (SubT.cons (zT rfl) (SubT.cons (zT rfl) (SubT.nil))))) (SubO.cons (qag rfl (by simp [btL, chunk, hlen]; rfl)) (SubO.nil)) rfl rfl (noL' (noL hL) _))
    have hfl := flat_le (t.args.map (keyL d)) k
    rw [← List.map_take] at hfl
    have hbl := btL_length ([u8 t.kind, u8 t.name.size] ++ t.name.data.toList ++ [u8 (kq t.n / 2 ^ min (24 : Int).toNat IntKind.u32.bits), u8 (kq t.n / 2 ^ min (16 : Int).toNat IntKind.u32.bits), u8 (kq t.n / 2 ^ min (8 : Int).toNat IntKind.u32.bits), u8 (kq t.n), u8 t.args.length] ++ ((t.args.take k).map (keyL d)).flatten)
    have hbl2 : ([u8 t.kind, u8 t.name.size] ++ t.name.data.toList ++ [u8 (kq t.n / 2 ^ min (24 : Int).toNat IntKind.u32.bits), u8 (kq t.n / 2 ^ min (16 : Int).toNat IntKind.u32.bits), u8 (kq t.n / 2 ^ min (8 : Int).toNat IntKind.u32.bits), u8 (kq t.n), u8 t.args.length] ++ ((t.args.take k).map (keyL d)).flatten).length = 7 + t.name.size + (((t.args.take k).map (keyL d)).flatten).length := by
      have e : t.name.data.toList.length = t.name.size := by simp
      simp only [List.length_append, List.length_cons, List.length_nil, e]; omega
    refine qd (qb (zA rfl (qn rfl rfl rfl rfl) (qc (qa (qd (qu rfl (fun c0 => ?_) (fun c0 => ?_)))))))
    · try simp only [↓cqA, cqB] at c0
      obtain ⟨u, hu⟩ := qK (l := t.args) (k := k) (by omega)
      have hum := List.mem_of_getElem? hu
      have husz : u.sz ≤ t.sz := by
        have := sum_split (l := t.args) (k := k) (u := u) Tm.sz hu
        rw [Tm.sz_eq t]; omega
      have hul := keyL_len d u (hs.arg hum)
      have hue := e8 (keyL d u)
      refine qt (qa (qd (qB (qd (qb (zA rfl (qo rfl qv rfl rfl (by omega) (qax hu)) (zA rfl (qD rfl qi rfl rfl) ?_)))))))
      refine qz rfl rfl (by decide) (qaf 6 rfl q6 rfl) rfl (qO rfl rfl rfl qi rfl rfl rfl rfl rfl rfl rfl rfl rfl (qc (qa (qb (zM rfl rfl rfl (zA rfl (qw rfl qi rfl rfl rfl rfl) ?_))))))
      refine qC (avs := [_]) true rfl rfl rfl (by decide) en_term_Key rfl rfl (Key_ok d u (h u hum) (hs.arg hum) (Tm.wfs_mem ht.2.2.2.2 hum) (by omega)) rfl rfl (awps_append_str 51 ta_S_uint8 (by kernel_rfl) qaY rfl rfl (by decide) rfl rfl rfl (noL hL _) rfl rfl (by omega) (zN rfl rfl rfl (qc ?_)))
      refine qP (qa (qb (zA rfl (qM rfl rfl rfl (by omega)) (zM rfl rfl rfl (qc (qa ?_)))))); refine ⟨?_, ?_, ?_⟩
      · skip
        omega
      · skip
        omega
      exact Sub.trans (qaE 51 3 (noL hL _) (noL hL _)) (qI (SubT.cons (zT rfl) (SubT.cons (zT rfl) (SubT.cons (zT rfl) (SubT.cons (zT rfl) (SubT.nil))))) (SubO.cons (qag rfl (by rw [qah hu, List.map_append, List.flatten_append]; simp [btL]; rfl)) (SubO.nil)) rfl rfl (noL' (noL hL) _))
    try simp only [↓cqA, cqB] at c0
    refine qQ (qq (qq (q7 ?_))); refine qa (qd (qb (zM rfl rfl rfl (zA rfl (stp_conv_bytes rfl (by kernel_rfl) ul_uint8 qaY rfl rfl) (zN rfl rfl rfl (qc (qa ?_))))))); refine qm ?_
    -- leaf 0F
    refine ret0 (noL hL) (.inl rfl) (qf rfl (qh)) ?_ ?_
    · rfl
    refine ⟨?_, rfl⟩
    rw [List.take_of_length_le (by omega), keyL]; rfl
end Go.Proofs.YtdecgkhdbfgldaaGreat

set_option linter.unusedVariables false
set_option linter.unusedSimpArgs false
namespace Go.Proofs.YtdecgkhdbfgldaaGreat
open Go
theorem u8_inj {a b : Int} (h : u8 a = u8 b) : a % 256 = b % 256 := by
  have := congrArg (fun x : UInt8 => (x.toNat : Int)) h
  simp only [← wrap_u8] at this
  have e : ∀ n : Int, IntKind.u8.wrap n = n % 256 := fun n => by simp [IntKind.wrap, IntKind.signed, IntKind.bits]
  rwa [e, e] at this
theorem kq_range (n : Int) : 0 ≤ kq n ∧ kq n < 4294967296 := by
  have e : ∀ n : Int, IntKind.u32.wrap n = n % 4294967296 := fun n => by simp [IntKind.wrap, IntKind.signed, IntKind.bits]
  rw [kq, e]
  exact ⟨Int.emod_nonneg _ (by decide), Int.emod_lt_of_pos _ (by decide)⟩
theorem kq_inj {a b : Int} (ha : -1073741824 ≤ a ∧ a ≤ 1073741824) (hb : -1073741824 ≤ b ∧ b ≤ 1073741824) (h : kq a = kq b) : a = b := by
  have e : ∀ n : Int, IntKind.u32.wrap n = n % 4294967296 := fun n => by simp [IntKind.wrap, IntKind.signed, IntKind.bits]
  have e2 : ∀ n : Int, -1073741824 ≤ n ∧ n ≤ 1073741824 → IntKind.i32.wrap n = n := fun n hn => by
    simp [IntKind.wrap, IntKind.signed, IntKind.bits]
    split <;> omega
  rw [kq, kq, e, e, e2 a ha, e2 b hb] at h
  omega
theorem flat_inj {α β : Type} {f : α → List β} : ∀ (l m : List α) (r s : List β), l.length = m.length → (∀ a ∈ l, ∀ b ∈ m, ∀ r s, f a ++ r = f b ++ s → a = b ∧ r = s) → (l.map f).flatten ++ r = (m.map f).flatten ++ s → l = m ∧ r = s
  | [], [], r, s, _, _, h => ⟨rfl, by simpa using h⟩
  | a :: l, b :: m, r, s, hl, hf, h => by
    simp only [List.map_cons, List.flatten_cons, List.append_assoc] at h
    obtain ⟨h1, h2⟩ := hf a (by simp) b (by simp) _ _ h
    obtain ⟨h3, h4⟩ := flat_inj l m r s (by simpa using hl) (fun x hx y hy => hf x (by simp [hx]) y (by simp [hy])) h2
    exact ⟨by rw [h1, h3], h4⟩
  | [], _ :: _, _, _, hl, _, _ => by simp at hl
  | _ :: _, [], _, _, hl, _, _ => by simp at hl
theorem shp_n {t : Tm} (h : t.shp) : -1073741824 ≤ t.n ∧ t.n ≤ 1073741824 := by
  rcases ((Tm.shp_iff t).1 h).1 with ⟨_, _, e, _⟩ | ⟨_, e, _⟩ | ⟨_, _, e, _⟩
  · omega
  · simpa [numB] using e
  · omega
theorem shp_k {t : Tm} (h : t.shp) : 1 ≤ t.kind ∧ t.kind ≤ 3 := by
  rcases ((Tm.shp_iff t).1 h).1 with ⟨e, _⟩ | ⟨e, _⟩ | ⟨e, _⟩ <;> omega
theorem shp_al {t : Tm} (h : t.shp) : t.args.length ≤ 4 := by
  rcases ((Tm.shp_iff t).1 h).1 with ⟨_, _, _, e⟩ | ⟨_, _, _, e⟩ | ⟨_, _, _, e⟩
  · rw [e]; simp
  · rw [e]; simp
  · exact e
theorem keyL_inj : ∀ (d : Nat) (a b : Tm), dle d a → dle d b → a.shp → b.shp → ∀ r s : List UInt8, keyL d a ++ r = keyL d b ++ s → a = b ∧ r = s
  | 0, a, _, h, _, _, _ => h.elim
  | d + 1, a, b, da, db, sa, sb => fun r s h => by
    have na := shp_name sa
    have nb := shp_name sb
    have la : a.name.data.toList.length = a.name.size := by simp
    have lb : b.name.data.toList.length = b.name.size := by simp
    have ka := shp_k sa
    have kb := shp_k sb
    have aa := shp_al sa
    have ab := shp_al sb
    rw [keyL, keyL] at h
    simp only [List.append_assoc, List.cons_append, List.nil_append, List.cons.injEq] at h
    obtain ⟨h1, h2, h⟩ := h
    have h1 := u8_inj h1
    have h2 := u8_inj h2
    have hsz : a.name.size = b.name.size := by omega
    obtain ⟨h3, h⟩ := List.append_inj h (by rw [la, lb, hsz])
    simp only [List.cons.injEq] at h
    obtain ⟨q1, q2, q3, q4, q5, h⟩ := h
    have q1 := u8_inj q1
    have q2 := u8_inj q2
    have q3 := u8_inj q3
    have q4 := u8_inj q4
    have q5 := u8_inj q5
    have c24 : min (24 : Int).toNat IntKind.u32.bits = 24 := by decide
    have c16 : min (16 : Int).toNat IntKind.u32.bits = 16 := by decide
    have c8 : min (8 : Int).toNat IntKind.u32.bits = 8 := by decide
    rw [c24] at q1
    rw [c16] at q2
    rw [c8] at q3
    have ra := kq_range a.n
    have rb := kq_range b.n
    have hq : kq a.n = kq b.n := by
      have p24 : (2 : Int) ^ 24 = 16777216 := by decide
      have p16 : (2 : Int) ^ 16 = 65536 := by decide
      have p8 : (2 : Int) ^ 8 = 256 := by decide
      rw [p24] at q1
      rw [p16] at q2
      rw [p8] at q3
      omega
    have hn := kq_inj (shp_n sa) (shp_n sb) hq
    obtain ⟨h4, h5⟩ := flat_inj a.args b.args r s (by omega) (fun x hx y hy => keyL_inj d x y (da x hx) (db y hy) (sa.arg hx) (sb.arg hy)) h
    refine ⟨?_, h5⟩
    have hk : a.kind = b.kind := by omega
    have hnm := bext h3
    cases a; cases b
    simp only at hk hnm hn h4
    rw [hk, hnm, hn, h4]
end Go.Proofs.YtdecgkhdbfgldaaGreat
