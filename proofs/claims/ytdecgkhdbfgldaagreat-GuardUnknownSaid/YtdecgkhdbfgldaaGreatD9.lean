/- Part 9 of the proof: Fi, Fj, Fm. -/
import Derived.Test.YtdecgkhdbfgldaaGreatD8
set_option linter.unusedVariables false
set_option linter.unusedSimpArgs false
set_option maxRecDepth 8000
namespace Go.Proofs.YtdecgkhdbfgldaaGreat
open Go
theorem qcR {α : Type} (f : α → Int) : ∀ (n : Int) (l : List α), (∀ t, t ∈ l → 0 ≤ f t) → n ≤ wgtL f n l
  | n, [], _ => by simp [wgtL]
  | n, a :: l, h => by
    simp only [wgtL]
    split
    · have := qcR f (n + f a) l (fun t ht => h t (by simp [ht]))
      have := h a (by simp); omega
    · omega
def wT (t : Tm) : Int := wgt 30 t
def wTs (l : List Tm) : Int := wgtL wT l.length l
theorem qcS (t : Tm) (h : t.wf) : 0 ≤ wT t ∧ wT t ≤ 4362862138900000 := by
  have h1 := wgt_ge 30 t
  have h2 := wgt_le 30 t h
  simp only [wT]; omega
theorem qcy (u : Tm) (h : u.wf) : PF 115 [tmA false u, iv 30] (iv (wT u)) := TermWeight_ok 30 (by omega) _ rfl u h
theorem Terms_ok (l : List Tm) (hl : qbD l) (hw : Tm.wfs l) : PF 78 [.dat false 4 (tmDs l)] (iv (wTs l)) := by
  have hlen := qaa l
  have hF : ∀ u, u ∈ l → 0 ≤ wT u ∧ wT u ≤ 4362862138900000 := fun u hu => qcS u (Tm.wfs_mem hw hu)
  simp only [qbD] at hl
  refine qG Tryz.func78 rfl Tryz.ntmps78 (Nat.le_of_ble_eq_true rfl) fun c hL hQ hDD => (qd (qb (zN rfl rfl rfl (qc (qa (qd (qb ?_))))))); refine zM rfl rfl rfl (zA rfl (qy rfl qv rfl) ?_)
  refine zN rfl rfl rfl (qc (qa (qd (qd (qb (zN rfl rfl rfl (qc ?_))))))); refine qa (qB (qV (l.length) (fun k => k ≤ l.length ∧ ∀ j, j < k → wgtL wT l.length (l.take j) < 1048576) (fun k => ⟨[(0, .dat false 4 (tmDs l)), (3, iv (wgtL wT l.length (l.take k))), (4, iv (k : Int))], []⟩) (⟨by omega, fun j hj => absurd hj (by omega)⟩) ?_ (fun k hk hp => ?_)))
  · exact qI (SubT.cons (zT rfl) (SubT.cons (qbg rfl (by exact qb6 (by simp only [List.take_zero, wgtL]; omega))) (SubT.cons (zT rfl) (SubT.nil)))) (SubO.nil) rfl rfl (noL' (noL hL) _)
  have hwk := wgtL_le wT 4362862138900000 (by omega) l.length (l.take k) (fun u hu => (hF u (List.mem_of_mem_take hu)).2) (by omega)
  have hw0 := qcR wT l.length (l.take k) (fun u hu => (hF u (List.mem_of_mem_take hu)).1)
  refine qd (qd (qb (zM rfl rfl rfl (zM rfl rfl rfl (zA rfl (qy rfl qv rfl) (zA rfl (qn rfl rfl rfl rfl) (zM rfl rfl rfl ?_))))))); refine qA 11 rfl (fun g11 => ?_) (fun g11 => ?_)
  · try simp only [↓cqA, cqB] at g11
    obtain ⟨u, hu⟩ := qK (l := l) (k := k) (by omega)
    have hum := List.mem_of_getElem? hu
    have huw := hF u hum
    have hut := Tm.wfs_mem hw hum
    refine zG rfl rfl rfl rfl (qk (.inl rfl) rfl) (zG rfl rfl rfl rfl (qn rfl rfl rfl rfl) (zA rfl (qj rfl rfl rfl) (qc (qa (qu rfl (fun c0 => ?_) (fun c0 => ?_))))))
    · try simp only [↓cqA, cqB] at c0
      refine qt (qa (qd (qB (qb (zM rfl rfl rfl (zM rfl rfl rfl (zM rfl rfl rfl ?_))))))); refine zA rfl (qo rfl qv rfl rfl (by omega) (qax hu)) (zA rfl (qD rfl qi rfl rfl) ?_)
      refine qC (avs := [_, _]) true rfl rfl rfl (by decide) qaV rfl rfl (qcy u hut) rfl rfl (zA rfl (qM rfl rfl rfl (by omega)) (zN rfl rfl rfl (qc (qP (qa (qb (zM rfl rfl rfl ?_))))))); refine zA rfl (qM rfl rfl rfl (by omega)) (zN rfl rfl rfl (qc ?_))
      have hb := wgtL_snoc wT l.length (l.take k) u (fun j hj => by
        by_cases hjk : j < k
        · have := hp.2 j hjk; rwa [List.take_take, Nat.min_eq_left (by omega)]
        · rw [List.take_of_length_le (by simp; omega)]; omega)
      rw [← qah hu] at hb
      refine qa ?_; refine ⟨?_, ?_, ?_⟩
      · skip
        omega
      · skip
        refine ⟨by omega, fun j hj => ?_⟩
        by_cases hjk : j < k
        · exact hp.2 j hjk
        · rw [show j = k by omega]; omega
      exact qI (SubT.cons (zT rfl) (SubT.cons (qbg rfl (by exact qb6 (by rw [hb]; try omega))) (SubT.cons (zT rfl) (SubT.nil)))) (SubO.nil) rfl rfl (noL' (noL hL) _)
    try simp only [↓cqA, cqB] at c0
    have hfin : wgtL wT l.length (l.take k) = wgtL wT l.length l := ((wgtL_take wT _ _ k hp.1 hp.2).trans (wgtL_stop _ _ _ (by omega))).symm
    refine qQ (qq (qq (q7 ?_))); refine qa (qd (qb (zM rfl rfl rfl (zN rfl rfl rfl (qc (qa (qm ?_)))))))
    -- leaf g11T0F
    refine ret0 (noL hL) (.inl rfl) (qf rfl (qh)) ?_ ?_
    · rfl
    exact ⟨qbr hfin, rfl⟩
  try simp only [↓cqA, cqB] at g11
  have hfin : wgtL wT l.length (l.take k) = wgtL wT l.length l := by rw [List.take_of_length_le (by omega)]
  refine zS rfl rfl rfl rfl (zS rfl rfl rfl rfl (zA rfl (qj rfl rfl rfl) (qc (qa (qas rfl (qQ (qq (qq (q7 ?_))))))))); refine qa (qd (qb (zM rfl rfl rfl (zN rfl rfl rfl (qc (qa (qm ?_)))))))
  -- leaf g11F
  refine ret0 (noL hL) (.inl rfl) (qf rfl (qh)) ?_ ?_
  · rfl
  exact ⟨qbr hfin, rfl⟩
theorem wTs_range (l : List Tm) (hl : qbD l) (hw : Tm.wfs l) : 0 ≤ wTs l ∧ wTs l ≤ 4600000000000000 := by
  have hF : ∀ u, u ∈ l → 0 ≤ wT u ∧ wT u ≤ 4362862138900000 := fun u hu => qcS u (Tm.wfs_mem hw hu)
  have h1 := wgtL_le wT 4362862138900000 (by omega) l.length l (fun u hu => (hF u hu).2) (by simp only [qbD] at hl; omega)
  have h2 := qcR wT l.length l (fun u hu => (hF u hu).1)
  simp only [wTs]; omega
def wG (g : Gd) : Int := wT g.l + wT g.r
def wGs (l : List Gd) : Int := wgtL wG l.length l
theorem wG_range (g : Gd) (h : g.wf) : 0 ≤ wG g ∧ wG g ≤ 8725724277800000 := by
  have h1 := qcS g.l h.2.1
  have h2 := qcS g.r h.2.2
  simp only [wG]; omega
theorem GuardsWeight_ok (l : List Gd) (hl : qbD l) (hw : ∀ g ∈ l, g.wf) : PF 108 [.dat false 9 (gdDs l)] (iv (wGs l)) := by
  have hlen := qbU l
  have hF : ∀ u, u ∈ l → 0 ≤ wG u ∧ wG u ≤ 8725724277800000 := fun u hu => wG_range u (hw u hu)
  simp only [qbD] at hl
  refine qG Tryz.func108 rfl Tryz.ntmps108 (Nat.le_of_ble_eq_true rfl) fun c hL hQ hDD => (qd (qb (zN rfl rfl rfl (qc (qa (qd (qb ?_))))))); refine zM rfl rfl rfl (zA rfl (qy rfl qac rfl) ?_)
  refine zN rfl rfl rfl (qc (qa (qd (qd (qb (zN rfl rfl rfl (qc ?_))))))); refine qa (qB (qV (l.length) (fun k => k ≤ l.length ∧ ∀ j, j < k → wgtL wG l.length (l.take j) < 1048576) (fun k => ⟨[(0, .dat false 9 (gdDs l)), (3, iv (wgtL wG l.length (l.take k))), (4, iv (k : Int))], []⟩) (⟨by omega, fun j hj => absurd hj (by omega)⟩) ?_ (fun k hk hp => ?_)))
  · exact qI (SubT.cons (zT rfl) (SubT.cons (qbg rfl (by exact qb6 (by simp only [List.take_zero, wgtL]; omega))) (SubT.cons (zT rfl) (SubT.nil)))) (SubO.nil) rfl rfl (noL' (noL hL) _)
  have hwk := wgtL_le wG 8725724277800000 (by omega) l.length (l.take k) (fun u hu => (hF u (List.mem_of_mem_take hu)).2) (by omega)
  have hw0 := qcR wG l.length (l.take k) (fun u hu => (hF u (List.mem_of_mem_take hu)).1)
  refine qd (qd (qb (zM rfl rfl rfl (zM rfl rfl rfl (zA rfl (qy rfl qac rfl) (zA rfl (qn rfl rfl rfl rfl) (zM rfl rfl rfl ?_))))))); refine qA 11 rfl (fun g11 => ?_) (fun g11 => ?_)
  · try simp only [↓cqA, cqB] at g11
    obtain ⟨u, hu⟩ := qK (l := l) (k := k) (by omega)
    have hum := List.mem_of_getElem? hu
    have huw := hF u hum
    have hul := (hw u hum).2.1
    have hur := (hw u hum).2.2
    have hwg : wG u = wT u.l + wT u.r := rfl
    have hul2 := qcS u.l hul
    have hur2 := qcS u.r hur
    refine zG rfl rfl rfl rfl (qk (.inl rfl) rfl) (zG rfl rfl rfl rfl (qn rfl rfl rfl rfl) (zA rfl (qj rfl rfl rfl) (qc (qa (qu rfl (fun c0 => ?_) (fun c0 => ?_))))))
    · try simp only [↓cqA, cqB] at c0
      refine qt (qa (qd (qB (q8 14 qbd rfl rfl rfl rfl (qe rfl (by decide) (.run rfl (qk (.inl rfl) rfl)) (qe rfl (by decide) (.run rfl (qk (.inl rfl) rfl)) (qe rfl (by decide) (.run rfl (qk (.inl rfl) rfl)) ?_))))))); refine qe rfl (by decide) (.run rfl (qo rfl qac rfl rfl (by omega) (gdDs_get hu))) (qe rfl (by decide) (.run rfl (qZ rfl qaO rfl)) ?_)
      refine qe rfl (by decide) (.run rfl (stp_load_elpn rfl qi rfl rfl rfl)) (qe rfl (by decide) (.run rfl (qN (avs := [_, _]) true rfl qaV rfl rfl (qcy u.l hul) (fun _ => rfl) rfl)) (qe rfl (by decide) (.run rfl (qM rfl rfl rfl (by omega))) (qe rfl (by decide) (.run rfl (qk (.inl rfl) rfl)) (qe rfl (by decide) (.run rfl (qk (.inl rfl) rfl)) (qe rfl (by decide) (.run rfl (qo rfl qac rfl rfl (by omega) (gdDs_get hu))) ?_)))))
      refine qe rfl (by decide) (.run rfl (qZ rfl qa1 rfl)) (qe rfl (by decide) (.run rfl (qD rfl qi rfl rfl)) (qe rfl (by decide) (.run rfl (qN (avs := [_, _]) true rfl qaV rfl rfl (qcy u.r hur) (fun _ => rfl) rfl)) (qau ⟨rfl, rfl, ?_⟩))); refine zA rfl (qM rfl rfl rfl (by omega)) (zN rfl rfl rfl (qc (qP ?_)))
      refine qa (qb (zM rfl rfl rfl (zA rfl (qM rfl rfl rfl (by omega)) (zN rfl rfl rfl (qc ?_)))))
      have hb := wgtL_snoc wG l.length (l.take k) u (fun j hj => by
        by_cases hjk : j < k
        · have := hp.2 j hjk; rwa [List.take_take, Nat.min_eq_left (by omega)]
        · rw [List.take_of_length_le (by simp; omega)]; omega)
      rw [← qah hu] at hb
      refine qa ?_; refine ⟨?_, ?_, ?_⟩
      · skip
        omega
      · skip
        refine ⟨by omega, fun j hj => ?_⟩
        by_cases hjk : j < k
        · exact hp.2 j hjk
        · rw [show j = k by omega]; omega
      exact qI (SubT.cons (zT rfl) (SubT.cons (qbg rfl (by exact qb6 (by rw [hb]; try omega))) (SubT.cons (zT rfl) (SubT.nil)))) (SubO.nil) rfl rfl (noL' (noL hL) _)
    try simp only [↓cqA, cqB] at c0
    have hfin : wgtL wG l.length (l.take k) = wgtL wG l.length l := ((wgtL_take wG _ _ k hp.1 hp.2).trans (wgtL_stop _ _ _ (by omega))).symm
    refine qQ (qq (qq (q7 ?_))); refine qa (qd (qb (zM rfl rfl rfl (zN rfl rfl rfl (qc (qa (qm ?_)))))))
    -- leaf g11T0F
    refine ret0 (noL hL) (.inl rfl) (qf rfl (qh)) ?_ ?_
    · rfl
    exact ⟨qbr hfin, rfl⟩
  try simp only [↓cqA, cqB] at g11
  have hfin : wgtL wG l.length (l.take k) = wgtL wG l.length l := by rw [List.take_of_length_le (by omega)]
  refine zS rfl rfl rfl rfl (zS rfl rfl rfl rfl (zA rfl (qj rfl rfl rfl) (qc (qa (qas rfl (qQ (qq (qq (q7 ?_))))))))); refine qa (qd (qb (zM rfl rfl rfl (zN rfl rfl rfl (qc (qa (qm ?_)))))))
  -- leaf g11F
  refine ret0 (noL hL) (.inl rfl) (qf rfl (qh)) ?_ ?_
  · rfl
  exact ⟨qbr hfin, rfl⟩
theorem wGs_range (l : List Gd) (hl : qbD l) (hw : ∀ g ∈ l, g.wf) : 0 ≤ wGs l ∧ wGs l ≤ 9000000000000000 := by
  have hF : ∀ u, u ∈ l → 0 ≤ wG u ∧ wG u ≤ 8725724277800000 := fun u hu => wG_range u (hw u hu)
  have h1 := wgtL_le wG 8725724277800000 (by omega) l.length l (fun u hu => (hF u hu).2) (by simp only [qbD] at hl; omega)
  have h2 := qcR wG l.length l (fun u hu => (hF u hu).1)
  simp only [wGs]; omega
def wB (b : Bd) : Int := b.name.size + wT b.t
def wBs (l : List Bd) : Int := wgtL wB l.length l
theorem wB_range (b : Bd) (h : b.wf) : 0 ≤ wB b ∧ wB b ≤ 4600000000000000 := by
  have h1 := qcS b.t h.2
  have h2 := h.1
  simp only [wB]; omega
theorem wBs_range (l : List Bd) (hl : qbD l) (hw : ∀ g ∈ l, g.wf) : 0 ≤ wBs l ∧ wBs l ≤ 4800000000000000 := by
  have hF : ∀ u, u ∈ l → 0 ≤ wB u ∧ wB u ≤ 4600000000000000 := fun u hu => wB_range u (hw u hu)
  have h1 := wgtL_le wB 4600000000000000 (by omega) l.length l (fun u hu => (hF u hu).2) (by simp only [qbD] at hl; omega)
  have h2 := qcR wB l.length l (fun u hu => (hF u hu).1)
  simp only [wBs]; omega
theorem BindsWeight_ok (l : List Bd) (hl : qbD l) (hw : ∀ g ∈ l, g.wf) : PF 80 [.dat false 5 (bdDs l)] (iv (wBs l)) := by
  have hlen := qak l
  have hF : ∀ u, u ∈ l → 0 ≤ wB u ∧ wB u ≤ 4600000000000000 := fun u hu => wB_range u (hw u hu)
  simp only [qbD] at hl
  refine qG Tryz.func80 rfl Tryz.ntmps80 (Nat.le_of_ble_eq_true rfl) fun c hL hQ hDD => (qd (qb (zN rfl rfl rfl (qc (qa (qd (qb ?_))))))); refine zM rfl rfl rfl (zA rfl (qy rfl qp rfl) ?_)
  refine zN rfl rfl rfl (qc (qa (qd (qd (qb (zN rfl rfl rfl (qc ?_))))))); refine qa (qB (qV (l.length) (fun k => k ≤ l.length ∧ ∀ j, j < k → wgtL wB l.length (l.take j) < 1048576) (fun k => ⟨[(0, .dat false 5 (bdDs l)), (3, iv (wgtL wB l.length (l.take k))), (4, iv (k : Int))], []⟩) (⟨by omega, fun j hj => absurd hj (by omega)⟩) ?_ (fun k hk hp => ?_)))
  · exact qI (SubT.cons (zT rfl) (SubT.cons (qbg rfl (by exact qb6 (by simp only [List.take_zero, wgtL]; omega))) (SubT.cons (zT rfl) (SubT.nil)))) (SubO.nil) rfl rfl (noL' (noL hL) _)
  have hwk := wgtL_le wB 4600000000000000 (by omega) l.length (l.take k) (fun u hu => (hF u (List.mem_of_mem_take hu)).2) (by omega)
  have hw0 := qcR wB l.length (l.take k) (fun u hu => (hF u (List.mem_of_mem_take hu)).1)
  refine qd (qd (qb (zM rfl rfl rfl (zM rfl rfl rfl (zA rfl (qy rfl qp rfl) (zA rfl (qn rfl rfl rfl rfl) (zM rfl rfl rfl ?_))))))); refine qA 11 rfl (fun g11 => ?_) (fun g11 => ?_)
  · try simp only [↓cqA, cqB] at g11
    obtain ⟨u, hu⟩ := qK (l := l) (k := k) (by omega)
    have hum := List.mem_of_getElem? hu
    have huw := hF u hum
    have hul := (hw u hum).1
    have hur := (hw u hum).2
    have hwg : wB u = u.name.size + wT u.t := rfl
    have hur2 := qcS u.t hur
    refine zG rfl rfl rfl rfl (qk (.inl rfl) rfl) (zG rfl rfl rfl rfl (qn rfl rfl rfl rfl) (zA rfl (qj rfl rfl rfl) (qc (qa (qu rfl (fun c0 => ?_) (fun c0 => ?_))))))
    · try simp only [↓cqA, cqB] at c0
      refine qt (qa (qd (qB (q8 14 qbd rfl rfl rfl rfl (qe rfl (by decide) (.run rfl (qk (.inl rfl) rfl)) (qe rfl (by decide) (.run rfl (qk (.inl rfl) rfl)) (qe rfl (by decide) (.run rfl (qk (.inl rfl) rfl)) ?_))))))); refine qe rfl (by decide) (.run rfl (qo rfl qp rfl rfl (by omega) (qaI hu))) (qe rfl (by decide) (.run rfl (qZ rfl qai rfl)) ?_)
      refine qe rfl (by decide) (.run rfl (qR rfl qT rfl)) (qe rfl (by decide) (.run rfl (qb5 rfl qaY rfl)) (qe rfl (by decide) (.run rfl (qM rfl rfl rfl (by omega))) (qe rfl (by decide) (.run rfl (qk (.inl rfl) rfl)) (qe rfl (by decide) (.run rfl (qk (.inl rfl) rfl)) (qe rfl (by decide) (.run rfl (qo rfl qp rfl rfl (by omega) (qaI hu))) (qe rfl (by decide) (.run rfl (qZ rfl qan rfl)) ?_))))))
      refine qe rfl (by decide) (.run rfl (qD rfl qi rfl rfl)) (qe rfl (by decide) (.run rfl (qN (avs := [_, _]) true rfl qaV rfl rfl (qcy u.t hur) (fun _ => rfl) rfl)) (qau ⟨rfl, rfl, ?_⟩)); refine zA rfl (qM rfl rfl rfl (by omega)) (zN rfl rfl rfl (qc (qP ?_)))
      refine qa (qb (zM rfl rfl rfl (zA rfl (qM rfl rfl rfl (by omega)) (zN rfl rfl rfl (qc ?_)))))
      have hb := wgtL_snoc wB l.length (l.take k) u (fun j hj => by
        by_cases hjk : j < k
        · have := hp.2 j hjk; rwa [List.take_take, Nat.min_eq_left (by omega)]
        · rw [List.take_of_length_le (by simp; omega)]; omega)
      rw [← qah hu] at hb
      refine qa ?_; refine ⟨?_, ?_, ?_⟩
      · skip
        omega
      · skip
        refine ⟨by omega, fun j hj => ?_⟩
        by_cases hjk : j < k
        · exact hp.2 j hjk
        · rw [show j = k by omega]; omega
      exact qI (SubT.cons (zT rfl) (SubT.cons (qbg rfl (by exact qb6 (by rw [hb]; try omega))) (SubT.cons (zT rfl) (SubT.nil)))) (SubO.nil) rfl rfl (noL' (noL hL) _)
    try simp only [↓cqA, cqB] at c0
    have hfin : wgtL wB l.length (l.take k) = wgtL wB l.length l := ((wgtL_take wB _ _ k hp.1 hp.2).trans (wgtL_stop _ _ _ (by omega))).symm
    refine qQ (qq (qq (q7 ?_))); refine qa (qd (qb (zM rfl rfl rfl (zN rfl rfl rfl (qc (qa (qm ?_)))))))
    -- leaf g11T0F
    refine ret0 (noL hL) (.inl rfl) (qf rfl (qh)) ?_ ?_
    · rfl
    exact ⟨qbr hfin, rfl⟩
  try simp only [↓cqA, cqB] at g11
  have hfin : wgtL wB l.length (l.take k) = wgtL wB l.length l := by rw [List.take_of_length_le (by omega)]
  refine zS rfl rfl rfl rfl (zS rfl rfl rfl rfl (zA rfl (qj rfl rfl rfl) (qc (qa (qas rfl (qQ (qq (qq (q7 ?_))))))))); refine qa (qd (qb (zM rfl rfl rfl (zN rfl rfl rfl (qc (qa (qm ?_)))))))
  -- leaf g11F
  refine ret0 (noL hL) (.inl rfl) (qf rfl (qh)) ?_ ?_
  · rfl
  exact ⟨qbr hfin, rfl⟩
def wC (c : Cl) : Int := wT c.head + wTs c.body + wGs c.guards
def wCs (l : List Cl) : Int := wgtL wC l.length l
theorem wC_range (c : Cl) (h : c.wf) : 0 ≤ wC c ∧ wC c ≤ 20000000000000000 := by
  have h1 := qcS c.head h.1
  have h2 := wTs_range c.body h.2.1.1 h.2.1.2
  have h3 := wGs_range c.guards h.2.2.1 h.2.2.2
  simp only [wC]; omega
theorem ClausesWeight_ok (l : List Cl) (hl : qbD l) (hw : ∀ g ∈ l, g.wf) : PF 136 [.dat false 6 (clDs l)] (iv (wCs l)) := by
  have hlen := clDs_length l
  have hF : ∀ u, u ∈ l → 0 ≤ wC u ∧ wC u ≤ 20000000000000000 := fun u hu => wC_range u (hw u hu)
  simp only [qbD] at hl
  refine qG Tryz.func136 rfl Tryz.ntmps136 (Nat.le_of_ble_eq_true rfl) fun c hL hQ hDD => (qd (qb (zN rfl rfl rfl (qc (qa (qd (qb ?_))))))); refine zM rfl rfl rfl (zA rfl (qy rfl qbY rfl) ?_)
  refine zN rfl rfl rfl (qc (qa (qd (qd (qb (zN rfl rfl rfl (qc ?_))))))); refine qa (qB (qV (l.length) (fun k => k ≤ l.length ∧ ∀ j, j < k → wgtL wC l.length (l.take j) < 1048576) (fun k => ⟨[(0, .dat false 6 (clDs l)), (3, iv (wgtL wC l.length (l.take k))), (4, iv (k : Int))], []⟩) (⟨by omega, fun j hj => absurd hj (by omega)⟩) ?_ (fun k hk hp => ?_)))
  · exact qI (SubT.cons (zT rfl) (SubT.cons (qbg rfl (by exact qb6 (by simp only [List.take_zero, wgtL]; omega))) (SubT.cons (zT rfl) (SubT.nil)))) (SubO.nil) rfl rfl (noL' (noL hL) _)
  have hwk := wgtL_le wC 20000000000000000 (by omega) l.length (l.take k) (fun u hu => (hF u (List.mem_of_mem_take hu)).2) (by omega)
  have hw0 := qcR wC l.length (l.take k) (fun u hu => (hF u (List.mem_of_mem_take hu)).1)
  refine qd (qd (qb (zM rfl rfl rfl (zM rfl rfl rfl (zA rfl (qy rfl qbY rfl) (zA rfl (qn rfl rfl rfl rfl) (zM rfl rfl rfl ?_))))))); refine qA 11 rfl (fun g11 => ?_) (fun g11 => ?_)
  · try simp only [↓cqA, cqB] at g11
    obtain ⟨u, hu⟩ := qK (l := l) (k := k) (by omega)
    have hum := List.mem_of_getElem? hu
    have huw := hF u hum
    have hu1 := (hw u hum).1
    have hu2 := (hw u hum).2.1
    have hu3 := (hw u hum).2.2
    have hwg : wC u = wT u.head + wTs u.body + wGs u.guards := rfl
    have hr1 := qcS u.head hu1
    have hr2 := wTs_range u.body hu2.1 hu2.2
    have hr3 := wGs_range u.guards hu3.1 hu3.2
    refine zG rfl rfl rfl rfl (qk (.inl rfl) rfl) (zG rfl rfl rfl rfl (qn rfl rfl rfl rfl) (zA rfl (qj rfl rfl rfl) (qc (qa (qu rfl (fun c0 => ?_) (fun c0 => ?_))))))
    · try simp only [↓cqA, cqB] at c0
      refine qt (qa (qd (qB (q8 21 qbd rfl rfl rfl rfl (qe rfl (by decide) (.run rfl (qk (.inl rfl) rfl)) (qe rfl (by decide) (.run rfl (qk (.inl rfl) rfl)) (qe rfl (by decide) (.run rfl (qk (.inl rfl) rfl)) ?_))))))); refine qe rfl (by decide) (.run rfl (qo rfl qbY rfl rfl (by omega) (clDs_get hu))) (qe rfl (by decide) (.run rfl (qZ rfl fo_api_Clause_0 rfl)) ?_)
      refine qe rfl (by decide) (.run rfl (stp_load_elpn rfl qi rfl rfl rfl)) (qe rfl (by decide) (.run rfl (qN (avs := [_, _]) true rfl qaV rfl rfl (qcy u.head hu1) (fun _ => rfl) rfl)) (qe rfl (by decide) (.run rfl (qM rfl rfl rfl (by omega))) (qe rfl (by decide) (.run rfl (qk (.inl rfl) rfl)) (qe rfl (by decide) (.run rfl (qk (.inl rfl) rfl)) (qe rfl (by decide) (.run rfl (qo rfl qbY rfl rfl (by omega) (clDs_get hu))) ?_)))))
      refine qe rfl (by decide) (.run rfl (qZ rfl fo_api_Clause_1 rfl)) (qe rfl (by decide) (.run rfl (qR rfl qF rfl)) (qe rfl (by decide) (.run rfl (qN (avs := [_]) true rfl qcx rfl rfl (Terms_ok u.body hu2.1 hu2.2) (fun _ => rfl) rfl)) (qe rfl (by decide) (.run rfl (qM rfl rfl rfl (by omega))) (qe rfl (by decide) (.run rfl (qk (.inl rfl) rfl)) (qe rfl (by decide) (.run rfl (qk (.inl rfl) rfl)) ?_)))))
      refine qe rfl (by decide) (.run rfl (qo rfl qbY rfl rfl (by omega) (clDs_get hu))) (qe rfl (by decide) (.run rfl (qZ rfl fo_api_Clause_2 rfl)) (qe rfl (by decide) (.run rfl (qR rfl qaR rfl)) ?_))
      refine qe rfl (by decide) (.run rfl (qN (avs := [_]) true rfl qck rfl rfl (GuardsWeight_ok u.guards hu3.1 hu3.2) (fun _ => rfl) rfl)) (qau ⟨rfl, rfl, ?_⟩); refine zA rfl (qM rfl rfl rfl (by omega)) (zN rfl rfl rfl (qc (qP ?_)))
      refine qa (qb (zM rfl rfl rfl (zA rfl (qM rfl rfl rfl (by omega)) (zN rfl rfl rfl (qc ?_)))))
      have hb := wgtL_snoc wC l.length (l.take k) u (fun j hj => by
        by_cases hjk : j < k
        · have := hp.2 j hjk; rwa [List.take_take, Nat.min_eq_left (by omega)]
        · rw [List.take_of_length_le (by simp; omega)]; omega)
      rw [← qah hu] at hb
      refine qa ?_; refine ⟨?_, ?_, ?_⟩
      · skip
        omega
      · skip
        refine ⟨by omega, fun j hj => ?_⟩
        by_cases hjk : j < k
        · exact hp.2 j hjk
        · rw [show j = k by omega]; omega
      exact qI (SubT.cons (zT rfl) (SubT.cons (qbg rfl (by exact qb6 (by rw [hb]; try omega))) (SubT.cons (zT rfl) (SubT.nil)))) (SubO.nil) rfl rfl (noL' (noL hL) _)
    try simp only [↓cqA, cqB] at c0
    have hfin : wgtL wC l.length (l.take k) = wgtL wC l.length l := ((wgtL_take wC _ _ k hp.1 hp.2).trans (wgtL_stop _ _ _ (by omega))).symm
    refine qQ (qq (qq (q7 ?_))); refine qa (qd (qb (zM rfl rfl rfl (zN rfl rfl rfl (qc (qa (qm ?_)))))))
    -- leaf g11T0F
    refine ret0 (noL hL) (.inl rfl) (qf rfl (qh)) ?_ ?_
    · rfl
    exact ⟨qbr hfin, rfl⟩
  try simp only [↓cqA, cqB] at g11
  have hfin : wgtL wC l.length (l.take k) = wgtL wC l.length l := by rw [List.take_of_length_le (by omega)]
  refine zS rfl rfl rfl rfl (zS rfl rfl rfl rfl (zA rfl (qj rfl rfl rfl) (qc (qa (qas rfl (qQ (qq (qq (q7 ?_))))))))); refine qa (qd (qb (zM rfl rfl rfl (zN rfl rfl rfl (qc (qa (qm ?_)))))))
  -- leaf g11F
  refine ret0 (noL hL) (.inl rfl) (qf rfl (qh)) ?_ ?_
  · rfl
  exact ⟨qbr hfin, rfl⟩
def heavy11 (p : Ask11) : Bool := decide (600 < wCs p.C) || decide (600 < wTs p.K) || decide (1500 < wTs p.T)
theorem Heavy11_ok (p : Ask11) (hp : p.wf) : PF 71 [.agg (lift false (a11D p))] (bv (heavy11 p)) := by
  refine qG Tryz.func71 rfl Tryz.ntmps71 (Nat.le_of_ble_eq_true rfl) fun c hL hQ hDD => (qd (qb (qz rfl rfl (by decide) (qab 1 rfl rfl rfl) rfl (zN rfl rfl rfl (qc (qa (qd ?_))))))); refine qb (zA rfl (qg rfl fo_almagestlaw11_Ask_0 rfl) (zA rfl (qr rfl tf_S_api_Clause rfl rfl rfl rfl rfl) ?_))
  refine qC (avs := [_]) true rfl rfl rfl (by decide) en_almagestlaw0_ClausesWeight rfl rfl (ClausesWeight_ok p.C hp.1.1 hp.1.2) rfl rfl (zA rfl (qn rfl rfl rfl rfl) (zM rfl rfl rfl (qA 7 rfl (fun g7 => ?_) (fun g7 => ?_))))
  · try simp only [↓cqA, cqB] at g7
    refine zS rfl rfl rfl rfl (zS rfl rfl rfl rfl (zS rfl rfl rfl rfl (zS rfl rfl rfl rfl (zA rfl (qj rfl rfl rfl) (zM rfl rfl rfl ?_)))))
    refine zS rfl rfl rfl rfl (zS rfl rfl rfl rfl (zS rfl rfl rfl rfl (zS rfl rfl rfl rfl (zA rfl (qj rfl rfl rfl) (zN rfl rfl rfl (qc (qa ?_))))))); refine qm ?_
    -- leaf g7T
    refine ret0 (noL hL) (.inl rfl) (qf rfl (qh)) ?_ ?_
    · rfl
    refine ⟨qW ?_, rfl⟩
    simp_all [heavy11]
    try (intro h; omega)
  try simp only [↓cqA, cqB] at g7
  refine zG rfl rfl rfl rfl (qg rfl qbo rfl) (zG rfl rfl rfl rfl (qr rfl qF rfl rfl rfl rfl rfl) ?_)
  refine zG rfl rfl rfl rfl (qN (avs := [_]) true rfl qcx rfl rfl (Terms_ok p.K hp.2.1.1 hp.2.1.2) (fun _ => rfl) rfl) (zG rfl rfl rfl rfl (qn rfl rfl rfl rfl) (zA rfl (qj rfl rfl rfl) (zM rfl rfl rfl (qA 13 rfl (fun g13 => ?_) (fun g13 => ?_)))))
  · try simp only [↓cqA, cqB] at g13
    refine zS rfl rfl rfl rfl (zS rfl rfl rfl rfl (zS rfl rfl rfl rfl (zS rfl rfl rfl rfl (zA rfl (qj rfl rfl rfl) (zN rfl rfl rfl (qc (qa ?_))))))); refine qm ?_
    -- leaf g7Fg13T
    refine ret0 (noL hL) (.inl rfl) (qf rfl (qh)) ?_ ?_
    · rfl
    refine ⟨qW ?_, rfl⟩
    simp_all [heavy11]
    try (intro h; omega)
  try simp only [↓cqA, cqB] at g13
  refine zG rfl rfl rfl rfl (qg rfl fo_almagestlaw11_Ask_2 rfl) (zG rfl rfl rfl rfl (qr rfl qF rfl rfl rfl rfl rfl) ?_)
  refine zG rfl rfl rfl rfl (qN (avs := [_]) true rfl qcx rfl rfl (Terms_ok p.T hp.2.2.1 hp.2.2.2) (fun _ => rfl) rfl) (zG rfl rfl rfl rfl (qn rfl rfl rfl rfl) (zA rfl (qj rfl rfl rfl) (zN rfl rfl rfl (qc (qa (qm ?_))))))
  -- leaf g7Fg13F
  refine ret0 (noL hL) (.inl rfl) (qf rfl (qh)) ?_ ?_
  · rfl
  refine ⟨qW ?_, rfl⟩
  simp_all [heavy11]
  try (intro h; omega)
def heavy12 (p : Ask12) : Bool := decide (1500 < wgtL wBs (wGs p.G + p.B.length) p.B) || heavy11 p.K
theorem Heavy12_ok (p : Ask12) (hp : p.wf) : PF 38 [.agg (lift false (a12D p))] (bv (heavy12 p)) := by
  obtain ⟨K, l, G⟩ := p
  obtain ⟨hpK, ⟨hl, hwB⟩, hlG, hwG⟩ := hp
  have hlen := qaJ l
  have hlen2 : (qaM (Ask12.mk K l G).B).length = l.length := hlen
  have hrG := wGs_range G hlG hwG
  have hF : ∀ u, u ∈ l → 0 ≤ wBs u ∧ wBs u ≤ 9100000000000000 := fun u hu => by
    have := wBs_range u (hwB u hu).1 (hwB u hu).2; omega
  simp only [qbD] at hl
  refine qG Tryz.func38 rfl Tryz.ntmps38 (Nat.le_of_ble_eq_true rfl) fun c hL hQ hDD => (qd (qb (qz rfl rfl (by decide) (qab 1 rfl rfl rfl) rfl (zN rfl rfl rfl (qc (qa (qd ?_))))))); refine q8 6 qbd rfl rfl rfl rfl (qe rfl (by decide) (.run rfl (qg rfl qaq rfl)) (qe rfl (by decide) (.run rfl (qr rfl qaR rfl rfl rfl rfl rfl)) ?_))
  refine qe rfl (by decide) (.run rfl (qN (avs := [_]) true rfl qck rfl rfl (GuardsWeight_ok G hlG hwG) (fun _ => rfl) rfl)) (qe rfl (by decide) (.run rfl (qg rfl qbM rfl)) (qe rfl (by decide) (.run rfl (qr rfl qc3 rfl rfl rfl rfl rfl)) (qe rfl (by decide) (.run rfl (qy rfl qH rfl)) ?_)))
  refine qau ⟨rfl, rfl, ?_⟩; refine zA rfl (qM rfl rfl rfl (by omega)) (zN rfl rfl rfl (qc (qa (qd (qd (qb (zN rfl rfl rfl ?_))))))); refine qc (qa ?_)
  refine qB (qV (l.length) (fun k => k ≤ l.length ∧ ∀ j, j < k → wgtL wBs (wGs G + l.length) (l.take j) < 1048576) (fun k => ⟨[(1, .ptr 1 0), (3, iv (wgtL wBs (wGs G + l.length) (l.take k))), (4, iv (k : Int))], [(1, .box (lift false (a12D ⟨K, l, G⟩)))]⟩) (⟨by omega, fun j hj => absurd hj (by omega)⟩) ?_ (fun k hk hp => ?_))
  · exact qI (SubT.cons (zT rfl) (SubT.cons (qbg rfl (by exact qb6 (by simp only [List.take_zero, wgtL]; omega))) (SubT.cons (zT rfl) (SubT.nil)))) (SubO.cons (qag rfl (by rfl)) (SubO.nil)) rfl rfl (noL' (noL hL) _)
  have hwk := wgtL_le wBs 9100000000000000 (by omega) (wGs G + l.length) (l.take k) (fun u hu => (hF u (List.mem_of_mem_take hu)).2) (by omega)
  have hw0 := qcR wBs (wGs G + l.length) (l.take k) (fun u hu => (hF u (List.mem_of_mem_take hu)).1)
  refine qd (qd (qb (zM rfl rfl rfl (zA rfl (qg rfl qbM rfl) (zA rfl (qr rfl qc3 rfl rfl rfl rfl rfl) (zA rfl (qy rfl qH rfl) (zA rfl (qn rfl rfl rfl rfl) ?_))))))); refine zM rfl rfl rfl (qA 17 rfl (fun g17 => ?_) (fun g17 => ?_))
  · try simp only [↓cqA, cqB] at g17
    obtain ⟨u, hu⟩ := qK (l := l) (k := k) (by omega)
    have hum := List.mem_of_getElem? hu
    have huw := hF u hum
    have hul := hwB u hum
    refine zG rfl rfl rfl rfl (qk (.inl rfl) rfl) (zG rfl rfl rfl rfl (qn rfl rfl rfl rfl) (zA rfl (qj rfl rfl rfl) (qc (qa (qu rfl (fun c0 => ?_) (fun c0 => ?_))))))
    · try simp only [↓cqA, cqB] at c0
      refine qt (qa (qd (qB (qb (zM rfl rfl rfl (zA rfl (qg rfl qbM rfl) (zA rfl (qr rfl qc3 rfl rfl rfl rfl rfl) ?_))))))); refine zM rfl rfl rfl (zA rfl (qo rfl qH rfl rfl (by omega) (qbp hu)) ?_)
      refine zA rfl (qR rfl qap rfl) (qC (avs := [_]) true rfl rfl rfl (by decide) en_almagestlaw0_BindsWeight rfl rfl (BindsWeight_ok u hul.1 hul.2) rfl rfl (zA rfl (qM rfl rfl rfl (by omega)) (zN rfl rfl rfl (qc (qP (qa (qb ?_)))))))
      refine zM rfl rfl rfl (zA rfl (qM rfl rfl rfl (by omega)) (zN rfl rfl rfl (qc ?_)))
      have hb := wgtL_snoc wBs (wGs G + l.length) (l.take k) u (fun j hj => by
        by_cases hjk : j < k
        · have := hp.2 j hjk; rwa [List.take_take, Nat.min_eq_left (by omega)]
        · rw [List.take_of_length_le (by simp; omega)]; omega)
      rw [← qah hu] at hb
      refine qa ?_; refine ⟨?_, ?_, ?_⟩
      · skip
        omega
      · skip
        refine ⟨by omega, fun j hj => ?_⟩
        by_cases hjk : j < k
        · exact hp.2 j hjk
        · rw [show j = k by omega]; omega
      exact qI (SubT.cons (zT rfl) (SubT.cons (qbg rfl (by exact qb6 (by rw [hb]; try omega))) (SubT.cons (zT rfl) (SubT.nil)))) (SubO.cons (qag rfl (by rfl)) (SubO.nil)) rfl rfl (noL' (noL hL) _)
    try simp only [↓cqA, cqB] at c0
    have hfin : wgtL wBs (wGs G + l.length) (l.take k) = wgtL wBs (wGs G + l.length) l := ((wgtL_take wBs _ _ k hp.1 hp.2).trans (wgtL_stop _ _ _ (by omega))).symm
    refine qQ (qq (qq (q7 ?_))); refine qa (qd (qb (zM rfl rfl rfl (zA rfl (qn rfl rfl rfl rfl) (zM rfl rfl rfl (qA 33 rfl (fun g33 => ?_) (fun g33 => ?_)))))))
    · try simp only [↓cqA, cqB] at g33
      refine zS rfl rfl rfl rfl (zS rfl rfl rfl rfl (zS rfl rfl rfl rfl (zA rfl (qj rfl rfl rfl) (zN rfl rfl rfl (qc (qa (qm ?_)))))))
      -- leaf g17T0Fg33T
      refine ret0 (noL hL) (.inl rfl) (qf rfl (qh)) ?_ ?_
      · rfl
      refine ⟨qW ?_, rfl⟩
      rw [hfin] at g33
      simp only [heavy12]
      first | (rw [decide_eq_true (by omega)]; rfl) | (rw [decide_eq_false (by omega)]; rfl)
    try simp only [↓cqA, cqB] at g33
    refine zG rfl rfl rfl rfl (qg rfl qbe rfl) (zG rfl rfl rfl rfl (qr rfl tf_almagestlaw11_Ask rfl rfl rfl rfl rfl) (zG rfl rfl rfl rfl (qN (avs := [_]) true rfl en_almagestlaw11_Heavy rfl rfl (Heavy11_ok K hpK) (fun _ => rfl) rfl) (zA rfl (qj rfl rfl rfl) (zN rfl rfl rfl (qc (qa (qm ?_)))))))
    -- leaf g17T0Fg33F
    refine ret0 (noL hL) (.inl rfl) (qf rfl (qh)) ?_ ?_
    · rfl
    refine ⟨qW ?_, rfl⟩
    rw [hfin] at g33
    simp only [heavy12]
    first | (rw [decide_eq_true (by omega)]; rfl) | (rw [decide_eq_false (by omega)]; rfl)
  try simp only [↓cqA, cqB] at g17
  have hfin : wgtL wBs (wGs G + l.length) (l.take k) = wgtL wBs (wGs G + l.length) l := by rw [List.take_of_length_le (by omega)]
  refine zS rfl rfl rfl rfl (zS rfl rfl rfl rfl (zA rfl (qj rfl rfl rfl) (qc (qa (qas rfl (qQ (qq (qq (q7 ?_))))))))); refine qa (qd (qb ?_))
  refine zM rfl rfl rfl (zA rfl (qn rfl rfl rfl rfl) (zM rfl rfl rfl (qA 33 rfl (fun g33 => ?_) (fun g33 => ?_))))
  · try simp only [↓cqA, cqB] at g33
    refine zS rfl rfl rfl rfl (zS rfl rfl rfl rfl (zS rfl rfl rfl rfl (zA rfl (qj rfl rfl rfl) (zN rfl rfl rfl (qc (qa (qm ?_)))))))
    -- leaf g17Fg33T
    refine ret0 (noL hL) (.inl rfl) (qf rfl (qh)) ?_ ?_
    · rfl
    refine ⟨qW ?_, rfl⟩
    rw [hfin] at g33
    simp only [heavy12]
    first | (rw [decide_eq_true (by omega)]; rfl) | (rw [decide_eq_false (by omega)]; rfl)
  try simp only [↓cqA, cqB] at g33
  refine zG rfl rfl rfl rfl (qg rfl qbe rfl) (zG rfl rfl rfl rfl (qr rfl tf_almagestlaw11_Ask rfl rfl rfl rfl rfl) (zG rfl rfl rfl rfl (qN (avs := [_]) true rfl en_almagestlaw11_Heavy rfl rfl (Heavy11_ok K hpK) (fun _ => rfl) rfl) (zA rfl (qj rfl rfl rfl) (zN rfl rfl rfl (qc (qa (qm ?_)))))))
  -- leaf g17Fg33F
  refine ret0 (noL hL) (.inl rfl) (qf rfl (qh)) ?_ ?_
  · rfl
  refine ⟨qW ?_, rfl⟩
  rw [hfin] at g33
  simp only [heavy12]
  first | (rw [decide_eq_true (by omega)]; rfl) | (rw [decide_eq_false (by omega)]; rfl)
end Go.Proofs.YtdecgkhdbfgldaaGreat

set_option linter.unusedVariables false
set_option linter.unusedSimpArgs false
set_option maxRecDepth 8000
namespace Go.Proofs.YtdecgkhdbfgldaaGreat
open Go
def knownC (kind : Int) (a b : Tm) : Bool :=
  if kind = 1 ∨ kind = 2 then (if a.kind ≠ 2 ∨ b.kind ≠ 2 then false else decide (cmpT 5 a b < 0 ∨ (kind = 2 ∧ cmpT 5 a b = 0)))
  else (decide (cmpT 5 a b = 0) == decide (kind = 3))
theorem knownCompare_ok (kind : Int) (a b : Tm) (hd : dle 5 a) (ha : a.wf) (hb : b.wf) : PF 172 [iv kind, tmA false a, tmA false b] (bv (knownC kind a b)) := by
  refine qG Tryz.func172 rfl Tryz.ntmps172 (Nat.le_of_ble_eq_true rfl) fun c hL hQ hDD => (qd (qb (qz rfl rfl (by decide) (qab 4 rfl rfl rfl) rfl (qz rfl rfl (by decide) (qab 5 rfl rfl rfl) rfl (zN rfl rfl rfl (qc (qa ?_))))))); refine qd (qb (zA rfl (qw rfl qi rfl rfl rfl rfl) ?_))
  refine zA rfl (qw rfl qi rfl rfl rfl rfl) (qC (avs := [_, _]) true rfl rfl rfl (by decide) qcs rfl rfl (Compare_ok 5 a b hd ha hb) rfl rfl (zN rfl rfl rfl (qc (qa (qd (qd (qb ?_))))))); refine zM rfl rfl rfl ?_
  refine zA rfl (qn rfl rfl rfl rfl) (zM rfl rfl rfl (qA 13 rfl (fun g13 => ?_) (fun g13 => ?_)))
  · try simp only [↓cqA, cqB] at g13
    refine zS rfl rfl rfl rfl (zS rfl rfl rfl rfl (zA rfl (qj rfl rfl rfl) (qc (qa (qaj rfl (qd (qd ?_))))))); refine qb (zA rfl (qg rfl q9 rfl) (zA rfl (qr rfl qay rfl rfl rfl rfl rfl) ?_))
    refine zA rfl (qn rfl rfl rfl rfl) (zM rfl rfl rfl (qA 20 rfl (fun g20 => ?_) (fun g20 => ?_)))
    · try simp only [↓cqA, cqB] at g20
      refine zS rfl rfl rfl rfl (zS rfl rfl rfl rfl (zS rfl rfl rfl rfl (zA rfl (qj rfl rfl rfl) (qc (qa (qaj rfl (qd ?_))))))); refine qb (zN rfl rfl rfl (qc (qa (qm (ql (ql (?_)))))))
      -- leaf g13Tg20T
      refine ret0 (noL hL) (.inl rfl) (qf rfl (qh)) ?_ ?_
      · rfl
      refine ⟨qW ?_, rfl⟩
      rw [knownC]; repeat' split
      all_goals first | rfl | omega | (simp_all; done) | (simp_all; omega) | (rw [Bool.eq_iff_iff]; simp_all; done) | (rw [Bool.eq_iff_iff]; simp_all; omega)
    try simp only [↓cqA, cqB] at g20
    refine zG rfl rfl rfl rfl (qg rfl q9 rfl) (zG rfl rfl rfl rfl (qr rfl qay rfl rfl rfl rfl rfl) (zG rfl rfl rfl rfl (qn rfl rfl rfl rfl) (zA rfl (qj rfl rfl rfl) (qc (qa (qu rfl (fun c1 => ?_) (fun c1 => ?_)))))))
    · try simp only [↓cqA, cqB] at c1
      refine qd (qb (zN rfl rfl rfl (qc (qa (qm (ql (ql (?_))))))))
      -- leaf g13Tg20F1T
      refine ret0 (noL hL) (.inl rfl) (qf rfl (qh)) ?_ ?_
      · rfl
      refine ⟨qW ?_, rfl⟩
      rw [knownC]; repeat' split
      all_goals first | rfl | omega | (simp_all; done) | (simp_all; omega) | (rw [Bool.eq_iff_iff]; simp_all; done) | (rw [Bool.eq_iff_iff]; simp_all; omega)
    try simp only [↓cqA, cqB] at c1
    refine qt (qa (qd (qb (zM rfl rfl rfl (zA rfl (qn rfl rfl rfl rfl) (zM rfl rfl rfl (qA 27 rfl (fun g27 => ?_) (fun g27 => ?_))))))))
    · try simp only [↓cqA, cqB] at g27
      refine zS rfl rfl rfl rfl (zS rfl rfl rfl rfl (zS rfl rfl rfl rfl (qaG rfl rfl rfl (by decide) rfl (by decide) (qaG rfl rfl rfl (by decide) rfl (by decide) (zS rfl rfl rfl rfl (zA rfl (qj rfl rfl rfl) (zN rfl rfl rfl ?_))))))); refine qc (qa (qm (ql (?_))))
      -- leaf g13Tg20F1Fg27T
      refine ret0 (noL hL) (.inl rfl) (qf rfl (qh)) ?_ ?_
      · rfl
      refine ⟨qW ?_, rfl⟩
      rw [knownC]; repeat' split
      all_goals first | rfl | omega | (simp_all; done) | (simp_all; omega) | (rw [Bool.eq_iff_iff]; simp_all; done) | (rw [Bool.eq_iff_iff]; simp_all; omega)
    try simp only [↓cqA, cqB] at g27
    refine zG rfl rfl rfl rfl (qk (.inl rfl) rfl) (zG rfl rfl rfl rfl (qn rfl rfl rfl rfl) (zG rfl rfl rfl rfl (qk (.inl rfl) rfl) (qA 30 rfl (fun g30 => ?_) (fun g30 => ?_))))
    · try simp only [↓cqA, cqB] at g30
      refine zG rfl rfl rfl rfl (qk (.inl rfl) rfl) (zG rfl rfl rfl rfl (qn rfl rfl rfl rfl) (zG rfl rfl rfl rfl (qj rfl rfl rfl) (zA rfl (qj rfl rfl rfl) (zN rfl rfl rfl (qc (qa (qm ?_))))))); refine ql (?_)
      -- leaf g13Tg20F1Fg27Fg30T
      refine ret0 (noL hL) (.inl rfl) (qf rfl (qh)) ?_ ?_
      · rfl
      refine ⟨qW ?_, rfl⟩
      rw [knownC]; repeat' split
      all_goals first | rfl | omega | (simp_all; done) | (simp_all; omega) | (rw [Bool.eq_iff_iff]; simp_all; done) | (rw [Bool.eq_iff_iff]; simp_all; omega)
    try simp only [↓cqA, cqB] at g30
    refine zS rfl rfl rfl rfl (zS rfl rfl rfl rfl (zG rfl rfl rfl rfl (qj rfl rfl rfl) (zA rfl (qj rfl rfl rfl) (zN rfl rfl rfl (qc (qa (qm ?_))))))); refine ql (?_)
    -- leaf g13Tg20F1Fg27Fg30F
    refine ret0 (noL hL) (.inl rfl) (qf rfl (qh)) ?_ ?_
    · rfl
    refine ⟨qW ?_, rfl⟩
    rw [knownC]; repeat' split
    all_goals first | rfl | omega | (simp_all; done) | (simp_all; omega) | (rw [Bool.eq_iff_iff]; simp_all; done) | (rw [Bool.eq_iff_iff]; simp_all; omega)
  try simp only [↓cqA, cqB] at g13
  refine zG rfl rfl rfl rfl (qk (.inl rfl) rfl) (zG rfl rfl rfl rfl (qn rfl rfl rfl rfl) (zA rfl (qj rfl rfl rfl) (qc (qa (qu rfl (fun c0 => ?_) (fun c0 => ?_))))))
  · try simp only [↓cqA, cqB] at c0
    refine qd (qd (qb (zA rfl (qg rfl q9 rfl) (zA rfl (qr rfl qay rfl rfl rfl rfl rfl) (zA rfl (qn rfl rfl rfl rfl) (zM rfl rfl rfl (qA 20 rfl (fun g20 => ?_) (fun g20 => ?_))))))))
    · try simp only [↓cqA, cqB] at g20
      refine zS rfl rfl rfl rfl (zS rfl rfl rfl rfl (zS rfl rfl rfl rfl (zA rfl (qj rfl rfl rfl) (qc (qa (qaj rfl (qd ?_))))))); refine qb (zN rfl rfl rfl (qc (qa (qm (ql (ql (?_)))))))
      -- leaf g13F0Tg20T
      refine ret0 (noL hL) (.inl rfl) (qf rfl (qh)) ?_ ?_
      · rfl
      refine ⟨qW ?_, rfl⟩
      rw [knownC]; repeat' split
      all_goals first | rfl | omega | (simp_all; done) | (simp_all; omega) | (rw [Bool.eq_iff_iff]; simp_all; done) | (rw [Bool.eq_iff_iff]; simp_all; omega)
    try simp only [↓cqA, cqB] at g20
    refine zG rfl rfl rfl rfl (qg rfl q9 rfl) (zG rfl rfl rfl rfl (qr rfl qay rfl rfl rfl rfl rfl) (zG rfl rfl rfl rfl (qn rfl rfl rfl rfl) (zA rfl (qj rfl rfl rfl) (qc (qa (qu rfl (fun c1 => ?_) (fun c1 => ?_)))))))
    · try simp only [↓cqA, cqB] at c1
      refine qd (qb (zN rfl rfl rfl (qc (qa (qm (ql (ql (?_))))))))
      -- leaf g13F0Tg20F1T
      refine ret0 (noL hL) (.inl rfl) (qf rfl (qh)) ?_ ?_
      · rfl
      refine ⟨qW ?_, rfl⟩
      rw [knownC]; repeat' split
      all_goals first | rfl | omega | (simp_all; done) | (simp_all; omega) | (rw [Bool.eq_iff_iff]; simp_all; done) | (rw [Bool.eq_iff_iff]; simp_all; omega)
    try simp only [↓cqA, cqB] at c1
    refine qt (qa (qd (qb (zM rfl rfl rfl (zA rfl (qn rfl rfl rfl rfl) (zM rfl rfl rfl (qA 27 rfl (fun g27 => ?_) (fun g27 => ?_))))))))
    · try simp only [↓cqA, cqB] at g27
      refine zS rfl rfl rfl rfl (zS rfl rfl rfl rfl (zS rfl rfl rfl rfl (qaG rfl rfl rfl (by decide) rfl (by decide) (qaG rfl rfl rfl (by decide) rfl (by decide) (zS rfl rfl rfl rfl (zA rfl (qj rfl rfl rfl) (zN rfl rfl rfl ?_))))))); refine qc (qa (qm (ql (?_))))
      -- leaf g13F0Tg20F1Fg27T
      refine ret0 (noL hL) (.inl rfl) (qf rfl (qh)) ?_ ?_
      · rfl
      refine ⟨qW ?_, rfl⟩
      rw [knownC]; repeat' split
      all_goals first | rfl | omega | (simp_all; done) | (simp_all; omega) | (rw [Bool.eq_iff_iff]; simp_all; done) | (rw [Bool.eq_iff_iff]; simp_all; omega)
    try simp only [↓cqA, cqB] at g27
    refine zG rfl rfl rfl rfl (qk (.inl rfl) rfl) (zG rfl rfl rfl rfl (qn rfl rfl rfl rfl) (zG rfl rfl rfl rfl (qk (.inl rfl) rfl) (qA 30 rfl (fun g30 => ?_) (fun g30 => ?_))))
    · try simp only [↓cqA, cqB] at g30
      refine zG rfl rfl rfl rfl (qk (.inl rfl) rfl) (zG rfl rfl rfl rfl (qn rfl rfl rfl rfl) (zG rfl rfl rfl rfl (qj rfl rfl rfl) (zA rfl (qj rfl rfl rfl) (zN rfl rfl rfl (qc (qa (qm ?_))))))); refine ql (?_)
      -- leaf g13F0Tg20F1Fg27Fg30T
      refine ret0 (noL hL) (.inl rfl) (qf rfl (qh)) ?_ ?_
      · rfl
      refine ⟨qW ?_, rfl⟩
      rw [knownC]; repeat' split
      all_goals first | rfl | omega | (simp_all; done) | (simp_all; omega) | (rw [Bool.eq_iff_iff]; simp_all; done) | (rw [Bool.eq_iff_iff]; simp_all; omega)
    try simp only [↓cqA, cqB] at g30
    refine zS rfl rfl rfl rfl (zS rfl rfl rfl rfl (zG rfl rfl rfl rfl (qj rfl rfl rfl) (zA rfl (qj rfl rfl rfl) (zN rfl rfl rfl (qc (qa (qm ?_))))))); refine ql (?_)
    -- leaf g13F0Tg20F1Fg27Fg30F
    refine ret0 (noL hL) (.inl rfl) (qf rfl (qh)) ?_ ?_
    · rfl
    refine ⟨qW ?_, rfl⟩
    rw [knownC]; repeat' split
    all_goals first | rfl | omega | (simp_all; done) | (simp_all; omega) | (rw [Bool.eq_iff_iff]; simp_all; done) | (rw [Bool.eq_iff_iff]; simp_all; omega)
  try simp only [↓cqA, cqB] at c0
  refine qt (qa (qd (qb (zM rfl rfl rfl (zA rfl (qn rfl rfl rfl rfl) (zM rfl rfl rfl (zA rfl (qn rfl rfl rfl rfl) ?_))))))); refine zA rfl (stp_eqB rfl ul_bool rfl rfl) (zN rfl rfl rfl (qc (qa (qm ?_))))
  -- leaf g13F0F
  refine ret0 (noL hL) (.inl rfl) (qf rfl (qh)) ?_ ?_
  · rfl
  refine ⟨qW ?_, rfl⟩
  rw [knownC]; repeat' split
  all_goals first | rfl | omega | (simp_all; done) | (simp_all; omega) | (rw [Bool.eq_iff_iff]; simp_all; done) | (rw [Bool.eq_iff_iff]; simp_all; omega)
def qcM (kind : Int) (a b : Tm) : Int :=
  if kind < 1 ∨ 4 < kind ∨ mayT a = false ∨ mayT b = false ∨ qbh a = false ∨ qbh b = false then 1
  else if kind ≤ 2 ∧ (a.kind ≠ 2 ∨ b.kind ≠ 2) then 3 else 0
def guardC (kind : Int) (a b : Tm) : Bool := qcM kind a b == 0 && knownC kind a b
theorem gfin {kind e : Int} {a b : Tm} {x : Bool} (h : qcM kind a b = e) (hx : x = (e == 0 && knownC kind a b)) : resV [bv x, iv e] = AV.tup [bv (guardC kind a b), iv (qcM kind a b)] := by subst h; subst hx; rfl
theorem guardCompare_ok (kind : Int) (a b : Tm) (ha : a.wf) (hb : b.wf) : PF 112 [iv kind, tmA false a, tmA false b] (.tup [bv (guardC kind a b), iv (qcM kind a b)]) := by
  refine qG Tryz.func112 rfl Tryz.ntmps112 (Nat.le_of_ble_eq_true rfl) fun c hL hQ hDD => (qd (qb (qz rfl rfl (by decide) (qab 4 rfl rfl rfl) rfl (qz rfl rfl (by decide) (qab 5 rfl rfl rfl) rfl (zN rfl rfl rfl ?_)))))
  refine zN rfl rfl rfl (qc (qa (qd (qd (qb (zM rfl rfl rfl (zA rfl (qn rfl rfl rfl rfl) ?_))))))); refine zM rfl rfl rfl (qA 10 rfl (fun g10 => ?_) (fun g10 => ?_))
  · try simp only [↓cqA, cqB] at g10
    refine zS rfl rfl rfl rfl (zS rfl rfl rfl rfl (zA rfl (qj rfl rfl rfl) (zM rfl rfl rfl (zS rfl rfl rfl rfl (zS rfl rfl rfl rfl ?_)))))
    refine zS rfl rfl rfl rfl (zA rfl (qj rfl rfl rfl) (zM rfl rfl rfl (zS rfl rfl rfl rfl (zS rfl rfl rfl rfl (zS rfl rfl rfl rfl ?_)))))
    refine zA rfl (qj rfl rfl rfl) (zM rfl rfl rfl (zS rfl rfl rfl rfl (zS rfl rfl rfl rfl (zS rfl rfl rfl rfl (zA rfl (qj rfl rfl rfl) ?_)))))
    refine zM rfl rfl rfl (zS rfl rfl rfl rfl (zS rfl rfl rfl rfl (zS rfl rfl rfl rfl (zA rfl (qj rfl rfl rfl) (qc (qa (qaj rfl ?_)))))))
    refine qd (qb (zN rfl rfl rfl (zN rfl rfl rfl (qc (qa (qm (ql (?_))))))))
    -- leaf g10T
    refine ret0 (noL hL) (.inl rfl) (qf rfl (qf rfl (qh))) ?_ ?_
    · rfl
    refine ⟨gfin ?_ rfl, rfl⟩
    rw [qcM]; repeat' split
    all_goals first | rfl | omega | (simp_all; done) | (simp_all; omega)
  try simp only [↓cqA, cqB] at g10
  refine zG rfl rfl rfl rfl (qk (.inl rfl) rfl) (zG rfl rfl rfl rfl (qn rfl rfl rfl rfl) (zA rfl (qj rfl rfl rfl) (zM rfl rfl rfl (qA 14 rfl (fun g14 => ?_) (fun g14 => ?_)))))
  · try simp only [↓cqA, cqB] at g14
    refine zS rfl rfl rfl rfl (zS rfl rfl rfl rfl (zS rfl rfl rfl rfl (zA rfl (qj rfl rfl rfl) (zM rfl rfl rfl (zS rfl rfl rfl rfl ?_)))))
    refine zS rfl rfl rfl rfl (zS rfl rfl rfl rfl (zA rfl (qj rfl rfl rfl) (zM rfl rfl rfl (zS rfl rfl rfl rfl (zS rfl rfl rfl rfl ?_)))))
    refine zS rfl rfl rfl rfl (zA rfl (qj rfl rfl rfl) (zM rfl rfl rfl (zS rfl rfl rfl rfl (zS rfl rfl rfl rfl (zS rfl rfl rfl rfl ?_)))))
    refine zA rfl (qj rfl rfl rfl) (qc (qa (qaj rfl (qd (qb (zN rfl rfl rfl (zN rfl rfl rfl ?_))))))); refine qc (qa (qm (ql (?_))))
    -- leaf g10Fg14T
    refine ret0 (noL hL) (.inl rfl) (qf rfl (qf rfl (qh))) ?_ ?_
    · rfl
    refine ⟨gfin ?_ rfl, rfl⟩
    rw [qcM]; repeat' split
    all_goals first | rfl | omega | (simp_all; done) | (simp_all; omega)
  try simp only [↓cqA, cqB] at g14
  refine zG rfl rfl rfl rfl (qw rfl qi rfl rfl rfl rfl) (zG rfl rfl rfl rfl (qN (avs := [_]) true rfl qa2 rfl rfl (May_ok _ (by assumption)) (fun _ => rfl) rfl) (zG rfl rfl rfl rfl (qU rfl rfl) (zA rfl (qj rfl rfl rfl) (zM rfl rfl rfl (qA 19 rfl (fun g19 => ?_) (fun g19 => ?_))))))
  · try simp only [↓cqA, cqB] at g19
    refine zS rfl rfl rfl rfl (zS rfl rfl rfl rfl (zS rfl rfl rfl rfl (zA rfl (qj rfl rfl rfl) (zM rfl rfl rfl (zS rfl rfl rfl rfl ?_)))))
    refine zS rfl rfl rfl rfl (zS rfl rfl rfl rfl (zA rfl (qj rfl rfl rfl) (zM rfl rfl rfl (zS rfl rfl rfl rfl (zS rfl rfl rfl rfl ?_)))))
    refine zS rfl rfl rfl rfl (zA rfl (qj rfl rfl rfl) (qc (qa (qaj rfl (qd (qb (zN rfl rfl rfl ?_))))))); refine zN rfl rfl rfl (qc (qa (qm (ql (?_)))))
    -- leaf g10Fg14Fg19T
    refine ret0 (noL hL) (.inl rfl) (qf rfl (qf rfl (qh))) ?_ ?_
    · rfl
    refine ⟨gfin ?_ rfl, rfl⟩
    rw [qcM]; repeat' split
    all_goals first | rfl | omega | (simp_all; done) | (simp_all; omega)
  try simp only [↓cqA, cqB] at g19
  refine zG rfl rfl rfl rfl (qw rfl qi rfl rfl rfl rfl) (zG rfl rfl rfl rfl (qN (avs := [_]) true rfl qa2 rfl rfl (May_ok _ (by assumption)) (fun _ => rfl) rfl) (zG rfl rfl rfl rfl (qU rfl rfl) (zA rfl (qj rfl rfl rfl) (zM rfl rfl rfl (qA 24 rfl (fun g24 => ?_) (fun g24 => ?_))))))
  · try simp only [↓cqA, cqB] at g24
    refine zS rfl rfl rfl rfl (zS rfl rfl rfl rfl (zS rfl rfl rfl rfl (zA rfl (qj rfl rfl rfl) (zM rfl rfl rfl (zS rfl rfl rfl rfl ?_)))))
    refine zS rfl rfl rfl rfl (zS rfl rfl rfl rfl (zA rfl (qj rfl rfl rfl) (qc (qa (qaj rfl (qd (qb ?_))))))); refine zN rfl rfl rfl (zN rfl rfl rfl (qc (qa (qm (ql (?_))))))
    -- leaf g10Fg14Fg19Fg24T
    refine ret0 (noL hL) (.inl rfl) (qf rfl (qf rfl (qh))) ?_ ?_
    · rfl
    refine ⟨gfin ?_ rfl, rfl⟩
    rw [qcM]; repeat' split
    all_goals first | rfl | omega | (simp_all; done) | (simp_all; omega)
  try simp only [↓cqA, cqB] at g24
  refine zG rfl rfl rfl rfl (qw rfl qi rfl rfl rfl rfl) (zG rfl rfl rfl rfl (qN (avs := [_]) true rfl en_term_Is rfl rfl (Is_ok _ (by assumption) (by assumption)) (fun _ => rfl) rfl) (zG rfl rfl rfl rfl (qU rfl rfl) (zA rfl (qj rfl rfl rfl) (zM rfl rfl rfl (qA 29 rfl (fun g29 => ?_) (fun g29 => ?_))))))
  · try simp only [↓cqA, cqB] at g29
    refine zS rfl rfl rfl rfl (zS rfl rfl rfl rfl (zS rfl rfl rfl rfl (zA rfl (qj rfl rfl rfl) (qc (qa (qaj rfl (qd ?_))))))); refine qb (zN rfl rfl rfl (zN rfl rfl rfl (qc (qa (qm (ql (?_)))))))
    -- leaf g10Fg14Fg19Fg24Fg29T
    refine ret0 (noL hL) (.inl rfl) (qf rfl (qf rfl (qh))) ?_ ?_
    · rfl
    refine ⟨gfin ?_ rfl, rfl⟩
    rw [qcM]; repeat' split
    all_goals first | rfl | omega | (simp_all; done) | (simp_all; omega)
  try simp only [↓cqA, cqB] at g29
  refine zG rfl rfl rfl rfl (qw rfl qi rfl rfl rfl rfl) (zG rfl rfl rfl rfl (qN (avs := [_]) true rfl en_term_Is rfl rfl (Is_ok _ (by assumption) (by assumption)) (fun _ => rfl) rfl) (zG rfl rfl rfl rfl (qU rfl rfl) (zA rfl (qj rfl rfl rfl) (qc (qa (qu rfl (fun c0 => ?_) (fun c0 => ?_)))))))
  · try simp only [↓cqA, cqB] at c0
    refine qd (qb (zN rfl rfl rfl (zN rfl rfl rfl (qc (qa (qm (ql (?_))))))))
    -- leaf g10Fg14Fg19Fg24Fg29F0T
    refine ret0 (noL hL) (.inl rfl) (qf rfl (qf rfl (qh))) ?_ ?_
    · rfl
    refine ⟨gfin ?_ rfl, rfl⟩
    rw [qcM]; repeat' split
    all_goals first | rfl | omega | (simp_all; done) | (simp_all; omega)
  try simp only [↓cqA, cqB] at c0
  refine qt (qa (qd (qd (qb (zM rfl rfl rfl (zA rfl (qn rfl rfl rfl rfl) (zM rfl rfl rfl ?_))))))); refine qA 36 rfl (fun g36 => ?_) (fun g36 => ?_)
  · try simp only [↓cqA, cqB] at g36
    refine zG rfl rfl rfl rfl (qg rfl q9 rfl) (zG rfl rfl rfl rfl (qr rfl qay rfl rfl rfl rfl rfl) (zG rfl rfl rfl rfl (qn rfl rfl rfl rfl) (zG rfl rfl rfl rfl (qk (.inl rfl) rfl) (qA 40 rfl (fun g40 => ?_) (fun g40 => ?_)))))
    · try simp only [↓cqA, cqB] at g40
      refine zS rfl rfl rfl rfl (zS rfl rfl rfl rfl (zS rfl rfl rfl rfl (zG rfl rfl rfl rfl (qj rfl rfl rfl) (zA rfl (qj rfl rfl rfl) (qc (qa ?_))))))
      refine qaj rfl (qd (qb (zN rfl rfl rfl (zN rfl rfl rfl (qc (qa (qm ?_))))))); refine ql (?_)
      -- leaf g10Fg14Fg19Fg24Fg29F0Fg36Tg40T
      refine ret0 (noL hL) (.inl rfl) (qf rfl (qf rfl (qh))) ?_ ?_
      · rfl
      refine ⟨gfin ?_ rfl, rfl⟩
      rw [qcM]; repeat' split
      all_goals first | rfl | omega | (simp_all; done) | (simp_all; omega)
    try simp only [↓cqA, cqB] at g40
    refine zG rfl rfl rfl rfl (qg rfl q9 rfl) (zG rfl rfl rfl rfl (qr rfl qay rfl rfl rfl rfl rfl) (zG rfl rfl rfl rfl (qn rfl rfl rfl rfl) (zG rfl rfl rfl rfl (qj rfl rfl rfl) (zA rfl (qj rfl rfl rfl) (qc (qa (qu rfl (fun c1 => ?_) (fun c1 => ?_))))))))
    · try simp only [↓cqA, cqB] at c1
      refine qd (qb (zN rfl rfl rfl (zN rfl rfl rfl (qc (qa (qm (ql (?_))))))))
      -- leaf g10Fg14Fg19Fg24Fg29F0Fg36Tg40F1T
      refine ret0 (noL hL) (.inl rfl) (qf rfl (qf rfl (qh))) ?_ ?_
      · rfl
      refine ⟨gfin ?_ rfl, rfl⟩
      rw [qcM]; repeat' split
      all_goals first | rfl | omega | (simp_all; done) | (simp_all; omega)
    try simp only [↓cqA, cqB] at c1
    refine qt (qa (qd (qb (zM rfl rfl rfl (zA rfl (qw rfl qi rfl rfl rfl rfl) (zA rfl (qw rfl qi rfl rfl rfl rfl) ?_))))))
    have hda := (qa6 (t := a) (by assumption)).1
    refine qC (avs := [_, _, _]) true rfl rfl rfl (by decide) en_known_Compare rfl rfl (knownCompare_ok _ _ _ (by assumption) (by assumption) (by assumption)) rfl rfl (zN rfl rfl rfl (zN rfl rfl rfl (qc (qa (qm ?_)))))
    -- leaf g10Fg14Fg19Fg24Fg29F0Fg36Tg40F1F
    refine ret0 (noL hL) (.inl rfl) (qf rfl (qf rfl (qh))) ?_ ?_
    · rfl
    refine ⟨gfin ?_ rfl, rfl⟩
    rw [qcM]; repeat' split
    all_goals first | rfl | omega | (simp_all; done) | (simp_all; omega)
  try simp only [↓cqA, cqB] at g36
  refine zS rfl rfl rfl rfl (zS rfl rfl rfl rfl (zS rfl rfl rfl rfl (zS rfl rfl rfl rfl (qaG rfl rfl rfl (by decide) rfl (by decide) (qaG rfl rfl rfl (by decide) rfl (by decide) ?_)))))
  refine qaG rfl rfl rfl (by decide) rfl (by decide) (zS rfl rfl rfl rfl (zA rfl (qj rfl rfl rfl) (qc (qa (qas rfl (qt (qa ?_))))))); refine qd (qb (zM rfl rfl rfl (zA rfl (qw rfl qi rfl rfl rfl rfl) (zA rfl (qw rfl qi rfl rfl rfl rfl) ?_))))
  have hda := (qa6 (t := a) (by assumption)).1
  refine qC (avs := [_, _, _]) true rfl rfl rfl (by decide) en_known_Compare rfl rfl (knownCompare_ok _ _ _ (by assumption) (by assumption) (by assumption)) rfl rfl (zN rfl rfl rfl (zN rfl rfl rfl (qc (qa (qm ?_)))))
  -- leaf g10Fg14Fg19Fg24Fg29F0Fg36F
  refine ret0 (noL hL) (.inl rfl) (qf rfl (qf rfl (qh))) ?_ ?_
  · rfl
  refine ⟨gfin ?_ rfl, rfl⟩
  rw [qcM]; repeat' split
  all_goals first | rfl | omega | (simp_all; done) | (simp_all; omega)
def pageOk (kind : Int) (a b : Tm) : Bool := decide (kind = 3 ∨ kind = 4 ∨ (a.kind = 2 ∧ b.kind = 2))
def pageC (kind : Int) (a b : Tm) : Bool :=
  if kind = 3 then eqT 5 a b else if kind = 4 then !eqT 5 a b else if a.kind ≠ 2 ∨ b.kind ≠ 2 then false
  else if kind = 1 then decide (a.n < b.n) else decide (a.n ≤ b.n)
theorem pfin {kind : Int} {a b : Tm} {x y : Bool} (h : x = pageC kind a b) (k : y = pageOk kind a b) : resV [bv x, bv y] = AV.tup [bv (pageC kind a b), bv (pageOk kind a b)] := by subst h; subst k; rfl
theorem pageCompare_ok (kind : Int) (a b : Tm) (hd : dle 5 a) (ha : a.wf) (hb : b.wf) : PF 283 [iv kind, tmA false a, tmA false b] (.tup [bv (pageC kind a b), bv (pageOk kind a b)]) := by
  refine qG Tryz.func283 rfl Tryz.ntmps283 (Nat.le_of_ble_eq_true rfl) fun c hL hQ hDD => (qd (qb (qz rfl rfl (by decide) (qab 4 rfl rfl rfl) rfl (qz rfl rfl (by decide) (qab 5 rfl rfl rfl) rfl (zN rfl rfl rfl ?_)))))
  refine zN rfl rfl rfl (qc (qa (qd (qd (qb (zM rfl rfl rfl (qc ?_))))))); refine qa (qB (qd (qb (zA rfl (qn rfl rfl rfl rfl) (zN rfl rfl rfl (qc (qa ?_))))))); refine qu rfl (fun c0 => ?_) (fun c0 => ?_)
  · try simp only [↓cqA, cqB] at c0
    refine qd (qb (zA rfl (qw rfl qi rfl rfl rfl rfl) (zA rfl (qw rfl qi rfl rfl rfl rfl) (qC (avs := [_, _]) true rfl rfl rfl (by decide) qaC rfl rfl (qcz 5 _ _ (by assumption) (by assumption) (by assumption)) rfl rfl (zN rfl rfl rfl (zN rfl rfl rfl (qc ?_))))))); refine qa (qm ?_)
    refine qL (ql (?_))
    -- leaf 0T
    refine ret0 (noL hL) (.inl rfl) (qf rfl (qf rfl (qh))) ?_ ?_
    · rfl
    refine ⟨pfin ?_ ?_, rfl⟩
    · rw [pageC]; repeat' split
      all_goals first | rfl | omega | (simp_all; done) | (simp_all; omega)
    · rw [pageOk]; simp_all
  try simp only [↓cqA, cqB] at c0
  refine qd (qb (zA rfl (qn rfl rfl rfl rfl) (zN rfl rfl rfl (qc (qa (qu rfl (fun c1 => ?_) (fun c1 => ?_)))))))
  · try simp only [↓cqA, cqB] at c1
    refine qd (qb (zA rfl (qw rfl qi rfl rfl rfl rfl) (zA rfl (qw rfl qi rfl rfl rfl rfl) ?_)))
    refine qC (avs := [_, _]) true rfl rfl rfl (by decide) qaC rfl rfl (qcz 5 _ _ (by assumption) (by assumption) (by assumption)) rfl rfl (zA rfl (qU rfl rfl) (zN rfl rfl rfl (zN rfl rfl rfl (qc (qa (qm (qL (ql (?_)))))))))
    -- leaf 0F1T
    refine ret0 (noL hL) (.inl rfl) (qf rfl (qf rfl (qh))) ?_ ?_
    · rfl
    refine ⟨pfin ?_ ?_, rfl⟩
    · rw [pageC]; repeat' split
      all_goals first | rfl | omega | (simp_all; done) | (simp_all; omega)
    · rw [pageOk]; simp_all
  try simp only [↓cqA, cqB] at c1
  refine qt (qP (qa (qd (qd (qb (zA rfl (qg rfl q9 rfl) (zA rfl (qr rfl qay rfl rfl rfl rfl rfl) ?_))))))); refine zA rfl (qn rfl rfl rfl rfl) (zM rfl rfl rfl (qA 23 rfl (fun g23 => ?_) (fun g23 => ?_)))
  · try simp only [↓cqA, cqB] at g23
    refine zS rfl rfl rfl rfl (zS rfl rfl rfl rfl (zS rfl rfl rfl rfl (zA rfl (qj rfl rfl rfl) (qc (qa (qaj rfl (qd ?_))))))); refine qb (zN rfl rfl rfl (zN rfl rfl rfl (qc (qa (qm (ql (?_)))))))
    -- leaf 0F1Fg23T
    refine ret0 (noL hL) (.inl rfl) (qf rfl (qf rfl (qh))) ?_ ?_
    · rfl
    refine ⟨pfin ?_ ?_, rfl⟩
    · rw [pageC]; repeat' split
      all_goals first | rfl | omega | (simp_all; done) | (simp_all; omega)
    · rw [pageOk]; simp_all
  try simp only [↓cqA, cqB] at g23
  refine zG rfl rfl rfl rfl (qg rfl q9 rfl) (zG rfl rfl rfl rfl (qr rfl qay rfl rfl rfl rfl rfl) (zG rfl rfl rfl rfl (qn rfl rfl rfl rfl) (zA rfl (qj rfl rfl rfl) (qc (qa (qu rfl (fun c2 => ?_) (fun c2 => ?_)))))))
  · try simp only [↓cqA, cqB] at c2
    refine qd (qb (zN rfl rfl rfl (zN rfl rfl rfl (qc (qa (qm (ql (?_))))))))
    -- leaf 0F1Fg23F2T
    refine ret0 (noL hL) (.inl rfl) (qf rfl (qf rfl (qh))) ?_ ?_
    · rfl
    refine ⟨pfin ?_ ?_, rfl⟩
    · rw [pageC]; repeat' split
      all_goals first | rfl | omega | (simp_all; done) | (simp_all; omega)
    · rw [pageOk]; simp_all
  try simp only [↓cqA, cqB] at c2
  refine qt (qa (qd (qd (qb (zM rfl rfl rfl (zA rfl (qn rfl rfl rfl rfl) (qc ?_))))))); refine qa (qu rfl (fun c3 => ?_) (fun c3 => ?_))
  · try simp only [↓cqA, cqB] at c3
    refine qd (qb (zA rfl (qg rfl qaB rfl) (zA rfl (qr rfl qay rfl rfl rfl rfl rfl) (zA rfl (qg rfl qaB rfl) (zA rfl (qr rfl qay rfl rfl rfl rfl rfl) ?_)))))
    refine zA rfl (qn rfl rfl rfl rfl) (zN rfl rfl rfl (zN rfl rfl rfl (qc (qa (qm (ql (?_)))))))
    -- leaf 0F1Fg23F2F3T
    refine ret0 (noL hL) (.inl rfl) (qf rfl (qf rfl (qh))) ?_ ?_
    · rfl
    refine ⟨pfin ?_ ?_, rfl⟩
    · rw [pageC]; repeat' split
      all_goals first | rfl | omega | (simp_all; done) | (simp_all; omega)
    · rw [pageOk]; simp_all
  try simp only [↓cqA, cqB] at c3
  refine qt (qa (qd (qb (zA rfl (qg rfl qaB rfl) (zA rfl (qr rfl qay rfl rfl rfl rfl rfl) (zA rfl (qg rfl qaB rfl) (zA rfl (qr rfl qay rfl rfl rfl rfl rfl) ?_)))))))
  refine zA rfl (qn rfl rfl rfl rfl) (zN rfl rfl rfl (zN rfl rfl rfl (qc (qa (qm ?_)))))
  -- leaf 0F1Fg23F2F3F
  refine ret0 (noL hL) (.inl rfl) (qf rfl (qf rfl (qh))) ?_ ?_
  · rfl
  refine ⟨pfin ?_ ?_, rfl⟩
  · rw [pageC]; repeat' split
    all_goals first | rfl | omega | (simp_all; done) | (simp_all; omega)
  · rw [pageOk]; simp_all
theorem num12_ok (e : Int) : PF 40 [iv e] (iv e) := by
  refine qG Tryz.func40 rfl Tryz.ntmps40 (Nat.le_of_ble_eq_true rfl) fun c hL hQ hDD => (qd (qb (zN rfl rfl rfl (qc (qa (qd (qb ?_))))))); refine zM rfl rfl rfl (zN rfl rfl rfl (qc (qa (qm ?_))))
  -- leaf 
  refine ret0 (noL hL) (.inl rfl) (qf rfl (qh)) ?_ ?_
  · rfl
  exact ⟨rfl, rfl⟩
def emp : ByteArray := ⟨#[]⟩
theorem numTm_wf (n : Int) (h : i64 n) : (Tm.mk 2 emp n []).wf := ⟨⟨by simp, by simp⟩, Nat.zero_le _, h, Nat.zero_le _, trivial⟩
theorem wakes12_ok : PF 41 [] (bv true) := by
  have e1 : guardC 1 ⟨2, emp, 1, []⟩ ⟨2, emp, 2, []⟩ = true := by decide
  have e2 : qcM 1 ⟨2, emp, 1, []⟩ ⟨2, emp, 2, []⟩ = 0 := by decide
  have key := guardCompare_ok 1 ⟨2, emp, 1, []⟩ ⟨2, emp, 2, []⟩ (numTm_wf 1 (by decide)) (numTm_wf 2 (by decide))
  rw [e1, e2] at key
  refine qG Tryz.func41 rfl Tryz.ntmps41 (Nat.le_of_ble_eq_true rfl) fun c hL hQ hDD => (qd (qb (zN rfl rfl rfl (qc (qa (qd (qb ?_))))))); refine zA rfl (qbx rfl q6 rfl qbT rfl rfl) ?_
  refine zA rfl (qbx rfl q6 rfl qbT rfl rfl) (qC (avs := [_, _, _]) true rfl rfl rfl (by decide) en_guard_Compare rfl rfl (AC_le (.cons .refl (.cons (.agg (.cons .refl (.cons .refl (.cons .refl (.cons .nil .nil))))) (.cons (.agg (.cons .refl (.cons .refl (.cons .refl (.cons .nil .nil))))) .nil))) key) rfl rfl ?_)
  refine zM rfl rfl rfl (zA rfl (qY rfl rfl rfl) (zA rfl (qY rfl rfl rfl) (zN rfl rfl rfl (zN rfl rfl rfl (qc (qa (qd ?_)))))))
  refine qb (zM rfl rfl rfl (qC (avs := [_]) true rfl rfl rfl (by decide) en_almagestlaw12_num rfl rfl (num12_ok _) rfl rfl (zA rfl (qn rfl rfl rfl rfl) (zM rfl rfl rfl (qA 12 rfl (fun g12 => ?_) (fun g12 => ?_))))))
  · try simp only [↓cqA, cqB] at g12
    refine zG rfl rfl rfl rfl (qk (.inl rfl) rfl) (zA rfl (qj rfl rfl rfl) (zN rfl rfl rfl (qc (qa (qm ?_)))))
    -- leaf g12T
    refine ret0 (noL hL) (.inl rfl) (qf rfl (qh)) ?_ ?_
    · rfl
    exact ⟨rfl, rfl⟩
  try simp only [↓cqA, cqB] at g12
  exact absurd trivial g12
theorem qcP (a b : Int) : cmpI a b = 0 ↔ a = b := by
  simp only [cmpI]; split
  · constructor
    · intro h; cases h
    · intro h; omega
  · split
    · constructor
      · intro h; cases h
      · intro h; omega
    · constructor
      · intro _; omega
      · intro _; rfl
theorem cmpS_zero (a b : ByteArray) : cmpS a b = 0 ↔ a = b := by
  rw [cmpS_eq]
  split
  · rename_i h
    constructor
    · intro h; cases h
    · rintro rfl
      have irr : ∀ l : List UInt8, Op.bytesLess l l = false := fun l => by
        induction l with
        | nil => rfl
        | cons x l ih => simp [Op.bytesLess, ih]
      rw [ltS, irr] at h; cases h
  · split
    · rename_i h; simp [h]
    · rename_i h; simp [h]
theorem cmpL_zero (f : Tm → Tm → Int) (g : Tm → Tm → Bool) : ∀ (l m : List Tm), (∀ u v, u ∈ l → (f u v = 0 ↔ g u v = true)) → (cmpL f l m = 0 ↔ eqL g l m = true)
  | [], [], _ => by simp [cmpL, eqL]
  | [], _ :: _, _ => by simp [cmpL, eqL]
  | _ :: _, [], _ => by simp [cmpL, eqL]
  | a :: l, b :: m, h => by
    have h1 := h a b (by simp)
    have ih := cmpL_zero f g l m (fun u v hu => h u v (by simp [hu]))
    simp only [cmpL, eqL, Bool.and_eq_true, ← h1]
    split
    · rename_i h0; simp [h0, ih]
    · rename_i h0; simp [h0]
theorem orL_zero (a b c d : Int) : orL [a, b, c, d] = 0 ↔ a = 0 ∧ b = 0 ∧ c = 0 ∧ d = 0 := by
  simp only [orL]; split
  · split
    · split
      · split
        · simp_all
        · simp_all
      · simp_all
    · simp_all
  · simp_all
theorem cmpT_zero : ∀ (d : Nat) (a b : Tm), dle d a → (cmpT d a b = 0 ↔ eqT d a b = true)
  | 0, a, b, h => h.elim
  | d + 1, a, b, h => by
    have hL := cmpL_zero (cmpT d) (eqT d) a.args b.args (fun u v hu => cmpT_zero d u v (h u hu))
    have hz := orL_zero (cmpI a.kind b.kind) (cmpI a.n b.n) (cmpI a.args.length b.args.length) (cmpS a.name b.name)
    simp only [cmpT, eqT, Bool.and_eq_true, decide_eq_true_eq, Array.toList_inj, data_inj]
    split
    · rename_i h0
      obtain ⟨h1, h2, h3, h4⟩ := hz.1 h0
      rw [qcP] at h1 h2
      rw [cmpS_zero] at h4
      rw [hL]
      exact ⟨fun h => ⟨⟨⟨h1, h4⟩, h2⟩, h⟩, fun h => h.2⟩
    · rename_i h0
      constructor
      · intro h; exact absurd h h0
      · rintro ⟨⟨⟨h1, h4⟩, h2⟩, h3⟩
        exfalso
        apply h0
        rw [hz, qcP, qcP, qcP, cmpS_zero]
        refine ⟨h1, h2, ?_, h4⟩
        by_cases hl : a.args.length = b.args.length
        · rw [hl]
        · rw [eqL_len _ hl] at h3; cases h3
theorem may_num {t : Tm} (h : mayT t = true) (hk : t.kind = 2) : t.name = ⟨#[]⟩ ∧ t.args = [] := by
  unfold mayT at h
  rw [mayS, if_neg (by omega), if_neg (by omega), if_pos hk] at h
  simp only [Bool.and_eq_true, decide_eq_true_eq] at h
  exact ⟨size_zero.1 h.1.2, List.eq_nil_of_length_eq_zero h.2⟩
theorem cmpT_num {a b : Tm} (ha : mayT a = true) (hb : mayT b = true) (ka : a.kind = 2) (kb : b.kind = 2) : cmpT 5 a b = cmpI a.n b.n := by
  obtain ⟨a1, a2⟩ := may_num ha ka
  obtain ⟨b1, b2⟩ := may_num hb kb
  have hs : cmpS (⟨#[]⟩ : ByteArray) ⟨#[]⟩ = 0 := (cmpS_zero _ _).2 rfl
  have hi : cmpI 2 2 = 0 := (qcP _ _).2 rfl
  have hj : cmpI (0 : Nat) (0 : Nat) = 0 := (qcP _ _).2 rfl
  rw [cmpT, a1, a2, b1, b2, ka, kb, hs, hi, List.length_nil, hj]
  simp only [orL, cmpL]
  split <;> simp_all
theorem guard_page (kind : Int) (a b : Tm) (h : 1 ≤ kind ∧ kind ≤ 4) (ha : mayT a = true) (hb : mayT b = true) (ga : qbh a = true) (gb : qbh b = true) :
    qcM kind a b = (if pageOk kind a b = true then 0 else 3) ∧ guardC kind a b = (pageOk kind a b && pageC kind a b) := by
  have hz := cmpT_zero 5 a b (qa6 ha).1
  have e1 : qcM kind a b = (if pageOk kind a b = true then 0 else 3) := by
    rw [qcM, if_neg (by simp only [ha, hb, ga, gb]; simp; omega), pageOk]
    simp only [decide_eq_true_eq]
    split <;> split <;> first | rfl | omega
  refine ⟨e1, ?_⟩
  rw [guardC, e1]
  by_cases hp : pageOk kind a b = true
  · rw [if_pos hp, hp]
    simp only [pageOk, decide_eq_true_eq] at hp
    have e : knownC kind a b = pageC kind a b := by
      rw [knownC, pageC]
      by_cases k3 : kind = 3
      · rw [if_neg (by omega), if_pos k3]
        rw [Bool.eq_iff_iff]; simp [k3, hz]
      by_cases k4 : kind = 4
      · rw [if_neg (by omega), if_neg k3, if_pos k4]
        rw [Bool.eq_iff_iff]; simp [k4, hz]
      have hk : a.kind = 2 ∧ b.kind = 2 := by rcases hp with h | h | h <;> first | exact h | omega
      rw [if_pos (by omega), if_neg (by omega), if_neg k3, if_neg k4, if_neg (by omega), cmpT_num ha hb hk.1 hk.2]
      by_cases k1 : kind = 1
      · rw [if_pos k1]; simp only [k1, cmpI]
        rw [Bool.eq_iff_iff]; simp; split <;> (try split) <;> omega
      · have k2 : kind = 2 := by omega
        rw [if_neg k1]; simp only [k2, cmpI]
        rw [Bool.eq_iff_iff]; simp; split <;> (try split) <;> omega
    rw [e]; rfl
  · rw [if_neg hp]
    simp only [Bool.not_eq_true] at hp
    rw [hp]; rfl
end Go.Proofs.YtdecgkhdbfgldaaGreat

set_option linter.unusedVariables false
set_option linter.unusedSimpArgs false
set_option maxRecDepth 8000
namespace Go.Proofs.YtdecgkhdbfgldaaGreat
open Go
def qc0 (g : ByteArray → Tm) : Nat → Tm → Tm
  | 0, t => t
  | d + 1, t => if t.kind = 1 then g t.name else ⟨t.kind, t.name, t.n, t.args.map (qc0 g d)⟩
def tmDsL (l : List Tm) : List (List D) := l.map tmD
theorem Turned_ok (g : ByteArray → Tm) (fb : FuncId) (hen : qX Tryz.prog fb) (hby : ∀ s, PF fb [sv s] (.agg (lift true (tmD (g s))))) : ∀ (d : Nat) (t : Tm), dle d t → t.wf → PF 144 [tmA false t, .fn fb []] (.agg (lift true (tmD (qc0 g d t))))
  | 0, t, h, _ => h.elim
  | d + 1, t, h, ht => by
    have hlen := qaa t.args
    have hal := ht.2.2.2.1
    refine qG Tryz.func144 rfl Tryz.ntmps144 (Nat.le_of_ble_eq_true rfl) fun c hL hQ hDD => (qd (qb (qz rfl rfl (by decide) (qab 2 rfl rfl rfl) rfl (qz rfl rfl (by decide) (qaf 4 rfl q6 rfl) rfl (qc (qa (qd ?_))))))); refine qd (qb (zA rfl (qg rfl q9 rfl) (zA rfl (qr rfl qay rfl rfl rfl rfl rfl) ?_)))
    refine zA rfl (qn rfl rfl rfl rfl) (qc (qa (qu rfl (fun c0 => ?_) (fun c0 => ?_))))
    · try simp only [↓cqA, cqB] at c0
      refine qd (qb (zM rfl rfl rfl (zA rfl (qg rfl qad rfl) (zA rfl (qr rfl qT rfl rfl rfl rfl rfl) (qC (avs := [_]) true rfl rfl rfl (by decide) hen rfl rfl (hby t.name) rfl rfl (qO rfl rfl rfl qi rfl rfl rfl rfl rfl rfl rfl rfl rfl (qc ?_))))))); refine qa (qm (ql (?_)))
      -- leaf 0T
      refine ret0 (noL hL) (.inl rfl) (qaU qi rfl rfl rfl (qh)) ?_ ?_
      · rfl
      exact ⟨by rw [qc0, if_pos c0]; rfl, rfl⟩
    try simp only [↓cqA, cqB] at c0
    refine qt (qa (qd (qb (zN rfl rfl rfl (qc (qa (qd ?_))))))); refine qd (qb (zA rfl (qg rfl qJ rfl) (zA rfl (qr rfl qF rfl rfl rfl rfl rfl) (zA rfl (qy rfl qv rfl) ?_))))
    refine zM rfl rfl rfl (qc (qa (qB (qV (t.args.length) (fun k => k ≤ t.args.length) (fun k => ⟨[(1, .fn fb []), (2, .ptr 2 0), (4, .ptr 4 0), (5, .row 5), (16, .dat false 4 (tmDs t.args)), (17, iv (tmDs t.args).length), (18, iv (k : Int))], [(2, .box (lift false (tmD t))), (4, .box ([Value.int .i64 0, Value.string ⟨#[]⟩, Value.int .i64 0, Value.slice none 0 0].map .imm)), (5, .rowd 35 4 true (tmDsL ((t.args.take k).map (qc0 g d))))]⟩) (by omega) ?_ (fun k hk hp => ?_)))))
    · exact Sub.trans (qaL (t := 5) (l := 5) 35 4 true rfl rfl) (qI (SubT.cons (zT rfl) (SubT.cons (zT rfl) (SubT.cons (zT rfl) (SubT.cons (zT rfl) (SubT.cons (zT rfl) (SubT.cons (zT rfl) (SubT.cons (zT rfl) (SubT.nil)))))))) (SubO.cons (qag rfl (by rfl)) (SubO.cons (qag rfl (by rfl)) (SubO.cons (qag rfl (by rfl)) (SubO.nil)))) rfl rfl (noL' (noL hL) _))
    have hl2 : (tmDsL ((t.args.take k).map (qc0 g d))).length ≤ t.args.length := by simp [tmDsL]; omega
    refine qd (qb (zA rfl (qn rfl rfl rfl rfl) (qc (qa (qd (qu rfl (fun c1 => ?_) (fun c1 => ?_)))))))
    · try simp only [↓cqA, cqB] at c1
      obtain ⟨u, hu⟩ := qK (l := t.args) (k := k) (by omega)
      have hum := List.mem_of_getElem? hu
      refine qt (qa (qd (qB (qd (qb (zA rfl (qo rfl qv rfl rfl (by omega) (qax hu)) (zA rfl (qD rfl qi rfl rfl) ?_)))))))
      refine qz rfl rfl (by decide) (qaf 7 rfl q6 rfl) rfl (qO rfl rfl rfl qi rfl rfl rfl rfl rfl rfl rfl rfl rfl (qc (qa (qb (zM rfl rfl rfl (zA rfl (qw rfl qi rfl rfl rfl rfl) ?_))))))
      refine zM rfl rfl rfl (qC (avs := [_, _]) true rfl rfl rfl (by decide) en_term_Turned rfl rfl (Turned_ok g fb hen hby d u (h u hum) (Tm.wfs_mem ht.2.2.2.2 hum)) rfl rfl (qz rfl rfl (by decide) (qS 26 rfl qv q6 rfl rfl (by decide) (by decide) (by decide) rfl rfl rfl) rfl (qbt rfl rfl (by decide) (qaA 27 ta_S_api_Term rfl rfl rfl rfl rfl rfl rfl rfl (noL hL _) (by omega) rfl) rfl ?_)))
      refine zN rfl rfl rfl (qc (qP (qa (qb (zA rfl (qM rfl rfl rfl (by omega)) (zM rfl rfl rfl (qc ?_))))))); refine qa ?_; refine ⟨?_, ?_, ?_⟩
      · skip
        omega
      · skip
        omega
      exact Sub.trans (qaE 27 5 (noL hL _) (noL hL _)) (qI (SubT.cons (zT rfl) (SubT.cons (zT rfl) (SubT.cons (zT rfl) (SubT.cons (zT rfl) (SubT.cons (zT rfl) (SubT.cons (zT rfl) (SubT.cons (zT rfl) (SubT.nil)))))))) (SubO.cons (qag rfl (by rfl)) (SubO.cons (qag rfl (by rfl)) (SubO.cons (qag rfl (by rw [qah hu, List.map_append, tmDsL, tmDsL, List.map_append]; rfl)) (SubO.nil)))) rfl rfl (noL' (noL hL) _))
    try simp only [↓cqA, cqB] at c1
    refine qQ (qq (qq (q7 ?_))); refine qa (qd (qb (zM rfl rfl rfl (zA rfl (qg rfl qJ rfl) (qO rfl rfl rfl qF rfl rfl rfl rfl rfl rfl rfl rfl rfl (qc (qa ?_))))))); refine qd (qbb (qam (l := 5) rfl (by decide) (noL hL _) rfl rfl) (qb ?_))
    refine zA rfl (qw rfl qi rfl rfl rfl rfl) (qO rfl rfl rfl qi rfl rfl rfl rfl rfl rfl rfl rfl rfl (qc (qa (qm ?_))))
    -- leaf 0F1F
    refine ret0 (noL hL) (.inl rfl) (qaU qi rfl rfl rfl (qh)) ?_ ?_
    · rfl
    exact ⟨by rw [qc0, if_neg c0, List.take_of_length_le (by omega)]; simp only [tmD, qb3]; rfl, rfl⟩
theorem Own1_raw (s : ByteArray) : PF 145 [sv s] (.agg [iv 1, sv s, iv 0, .imm (.slice none 0 0)]) := by
  refine qG Tryz.func145 rfl Tryz.ntmps145 (Nat.le_of_ble_eq_true rfl) fun c hL hQ hDD => (qd (qb (qz rfl rfl (by decide) (qaf 2 rfl q6 rfl) rfl (qc (qa (qd (qb ?_))))))); refine zM rfl rfl rfl ?_
  refine zA rfl (qbx rfl q6 rfl qbT rfl rfl) (qO rfl rfl rfl qi rfl rfl rfl rfl rfl rfl rfl rfl rfl (qc (qa (qm ?_))))
  -- leaf 
  refine ret0 (noL hL) (.inl rfl) (qaU qi rfl rfl rfl (qh)) ?_ ?_
  · rfl
  exact ⟨rfl, rfl⟩
theorem Own1_ok (s : ByteArray) : PF 145 [sv s] (.agg (lift true (tmD ⟨1, s, 0, []⟩))) :=
  AC_leR (.agg (.cons .refl (.cons .refl (.cons .refl (.cons .nil .nil))))) (Own1_raw s)
def ownT (d : Nat) (t : Tm) : Tm := qc0 (fun s => ⟨1, s, 0, []⟩) d t
theorem Own_ok (d : Nat) (t : Tm) (h : dle d t) (ht : t.wf) : PF 86 [tmA false t] (.agg (lift true (tmD (ownT d t)))) := by
  refine qG Tryz.func86 rfl Tryz.ntmps86 (Nat.le_of_ble_eq_true rfl) fun c hL hQ hDD => (qd (qb (qz rfl rfl (by decide) (qab 1 rfl rfl rfl) rfl (qz rfl rfl (by decide) (qaf 2 rfl q6 rfl) rfl (qc (qa (qd ?_))))))); refine qb (zA rfl (qw rfl qi rfl rfl rfl rfl) ?_)
  refine qC (avs := [_, _]) true rfl rfl rfl (by decide) en_term_Turned rfl rfl (Turned_ok _ _ en_term_Own_1 Own1_ok d t h ht) rfl rfl (qO rfl rfl rfl qi rfl rfl rfl rfl rfl rfl rfl rfl rfl (qc (qa (qm ?_))))
  -- leaf 
  refine ret0 (noL hL) (.inl rfl) (qaU qi rfl rfl rfl (qh)) ?_ ?_
  · rfl
  exact ⟨rfl, rfl⟩
theorem own_may : ∀ (d : Nat) (t : Tm) (n : Int), (mayS d t n).1 = true → ownT d t = t
  | 0, t, n, h => by simp [mayS] at h
  | d + 1, t, n, h => by
    have hL : ∀ (l : List Tm) (n : Int), (mayL (mayS d) l n).1 = true → l.map (ownT d) = l := by
      intro l
      induction l with
      | nil => intro n _; rfl
      | cons a l ih =>
        intro n h
        simp only [mayL] at h
        split at h
        · rename_i hb
          rw [List.map_cons, own_may d a n hb, ih _ h]
        · cases h
    obtain ⟨kind, name, m, args⟩ := t
    have e0 : ∀ l : List Tm, l.length = 0 → l = [] := fun l h => List.eq_nil_of_length_eq_zero h
    simp only [mayS] at h
    split at h
    · cases h
    split at h
    · rename_i k1
      simp only [Bool.and_eq_true, decide_eq_true_eq] at h
      simp only [ownT, qc0, if_pos k1]
      rw [k1, h.1.2, e0 _ h.2]
    rename_i k1
    split at h
    · simp only [Bool.and_eq_true, decide_eq_true_eq] at h
      simp only [ownT, qc0, if_neg k1]
      rw [e0 _ h.2]; rfl
    split at h
    · split at h
      · have hA : args.map (qc0 (fun s => ⟨1, s, 0, []⟩) d) = args := hL args (n - 1) h
        simp only [ownT, qc0, if_neg k1]
        rw [hA]
      · cases h
    · cases h
end Go.Proofs.YtdecgkhdbfgldaaGreat
