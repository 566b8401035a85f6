/- Part 17 of the proof: Il, Im, Io, Ha, Hj. -/
import Derived.Test.YtdecgkhdbfgldaaGreatD16
set_option linter.unusedVariables false
set_option linter.unusedSimpArgs false
set_option maxRecDepth 8000
namespace Go.Proofs.YtdecgkhdbfgldaaGreat
open Go
theorem rAskL_len (k : List Tm) (a : Tm) : (qbv k a).length ≤ k.length := by
  have h1 := qdh (ansL k a) []
  have h2 := ansL_len k a
  simp only [List.length_nil] at h1
  simp only [qbv]; omega
theorem rAskL_mem {k : List Tm} {a : Tm} {y : List Bd} (h : y ∈ qbv k a) : y ∈ ansL k a := by
  rcases addB_mem _ _ y h with h | h
  · cases h
  · exact h
theorem rgL_len (k : List Tm) (l : List Bd) (g : Gd) : (rgL k l g).length ≤ k.length + 1 := by
  unfold rgL
  split
  · split <;> simp
  · split
    · split
      · split <;> simp
      · split
        · rw [List.length_map]; have := List.length_filter_le (fun y => decide (qcc l y = 0)) (qbv k (putT l g.l)); have := rAskL_len k (putT l g.l); omega
        · simp
    · simp
theorem rgL_bok {k : List Tm} (hk : ∀ t ∈ k, t.wf ∧ mayT t = true) {l : List Bd} (hl : BOk l) (hl2 : l.length ≤ 16) {g : Gd} (hg : g.wf) : ∀ y ∈ rgL k l g, BOk y ∧ y.length ≤ 16 := fun y hy => by
  unfold rgL at hy
  split at hy
  · split at hy
    · rw [List.mem_singleton.1 hy]; exact ⟨hl, hl2⟩
    · cases hy
  · split at hy
    · split at hy
      · split at hy
        · rw [List.mem_singleton.1 hy]; exact ⟨hl, hl2⟩
        · cases hy
      · split at hy
        · obtain ⟨z, hz, rfl⟩ := List.mem_map.1 hy
          exact ⟨bothL_ok hl (ansL_bok hk (qcq hl hg.2.1) z (rAskL_mem (List.mem_filter.1 hz).1)), bothL_len16 l z⟩
        · cases hy
    · cases hy
theorem rguarded_ok (k : List Tm) (hkl : k.length ≤ 60) (hk : KG k) (l : List Bd) (hl : BOk l) (hl16 : l.length ≤ 16) (g : Gd) (hg : g.wf) (ho : okG g = true) : PF 222 [.dat false 4 (tmDs k), bdA l, gdA g] (.dat false 1 (qaM (rgL k l g))) := by
  refine blPost_ok ?_
  have hlk := qaa k
  have w1 := hg.2.1
  obtain ⟨m1, m2⟩ := okG_l ho
  have hk2 : ∀ t ∈ k, t.wf ∧ mayT t = true := fun t ht => ⟨(hk t ht).1, (hk t ht).2.1⟩
  have p1 := intoT_wf hl w1
  have p2 := qcq hl w1
  have hal := rAskL_len k (putT l g.l)
  have hab : ∀ y ∈ qbv k (putT l g.l), BOk y ∧ y.length ≤ 16 := fun y hy => ⟨ansL_bok hk2 p2 y (rAskL_mem hy), ansL_len16 k _ y (rAskL_mem hy)⟩
  have hbl := qaJ (qbv k (putT l g.l))
  refine qG Tryz.func222 rfl Tryz.ntmps222 (Nat.le_of_ble_eq_true rfl) fun c hL hQ hDD => (qd (qb (qz rfl rfl (by decide) (qab 5 rfl rfl rfl) rfl (zN rfl rfl rfl (qc (qa (qd ?_))))))); refine qd (qb (zA rfl (qg rfl qaS rfl) (zA rfl (qr rfl qay rfl rfl rfl rfl rfl) ?_)))
  refine zA rfl (qn rfl rfl rfl rfl) (qc (qa (qu rfl (fun c0 => ?_) (fun c0 => ?_))))
  · try simp only [↓cqA, cqB] at c0
    have m3 : mayT g.r = true := m2 (by omega) (by omega)
    refine qd (qd (qb (zM rfl rfl rfl (zA rfl (qw rfl qaz rfl rfl rfl rfl) (qC (avs := [_, _]) true rfl rfl rfl (by decide) en_almagestref10_holds rfl rfl (rholds_ok l hl g hg m1 m3) rfl rfl (qc (qa ?_))))))); refine qu rfl (fun c1 => ?_) (fun c1 => ?_)
    · try simp only [↓cqA, cqB] at c1
      refine qd (qb (zM rfl rfl rfl (qz rfl rfl (by decide) (qS 21 rfl qH qa4 rfl rfl (by decide) (by decide) (by decide) rfl rfl rfl) rfl (qbA 21 false 1 rfl rfl rfl rfl (qar (qam (l := 21) rfl (by decide) (noL hL _) rfl rfl) (zN rfl rfl rfl (qc ?_))))))); refine qa (qm (ql (ql (?_))))
      -- leaf 0T1T
      refine ret0 (noL hL) (.inl rfl) (qf rfl (qh)) ?_ ?_
      · rfl
      refine ⟨?_, rfl⟩
      unfold rgL
      first
        | (rw [if_pos c0, if_pos c1]; exact .inr rfl)
        | (rw [if_pos c0, if_neg (by rw [c1]; exact Bool.noConfusion)]; exact .inl ⟨rfl, rfl⟩)
        | (rw [if_neg (by omega), if_neg (by rw [c2]; exact Bool.noConfusion)]; exact .inl ⟨rfl, rfl⟩)
        | (rw [if_neg (by omega), if_pos q1, if_pos c3, if_pos (by rw [g36, c4]; rfl)]; exact .inr rfl)
        | (rw [if_neg (by omega), if_pos q1, if_pos c3, if_neg (by rw [g36, c4]; exact Bool.noConfusion)]; exact .inl ⟨rfl, rfl⟩)
        | (rw [if_neg (by omega), if_pos q1, if_pos c3, if_neg (by rw [g36, Bool.false_and]; exact Bool.noConfusion)]; exact .inl ⟨rfl, rfl⟩)
        | (rw [if_neg (by omega), if_pos q1, if_neg c3, if_neg (by rw [c5]; exact Bool.noConfusion)]; exact .inl ⟨rfl, rfl⟩)
        | (have e : (qbv k (putT l g.l)).take i = qbv k (putT l g.l) := List.take_of_length_le (by omega)
           rw [if_neg (by omega), if_pos q1, if_neg c3, if_pos c5, e]; exact .inr rfl)
        | trace_state
    try simp only [↓cqA, cqB] at c1
    refine qt (qa (qd (qb (zN rfl rfl rfl (qc (qa (qm ?_))))))); refine ql (?_)
    -- leaf 0T1F
    refine ret0 (noL hL) (.inl rfl) (qf rfl (qh)) ?_ ?_
    · rfl
    refine ⟨?_, rfl⟩
    unfold rgL
    first
      | (rw [if_pos c0, if_pos c1]; exact .inr rfl)
      | (rw [if_pos c0, if_neg (by rw [c1]; exact Bool.noConfusion)]; exact .inl ⟨rfl, rfl⟩)
      | (rw [if_neg (by omega), if_neg (by rw [c2]; exact Bool.noConfusion)]; exact .inl ⟨rfl, rfl⟩)
      | (rw [if_neg (by omega), if_pos q1, if_pos c3, if_pos (by rw [g36, c4]; rfl)]; exact .inr rfl)
      | (rw [if_neg (by omega), if_pos q1, if_pos c3, if_neg (by rw [g36, c4]; exact Bool.noConfusion)]; exact .inl ⟨rfl, rfl⟩)
      | (rw [if_neg (by omega), if_pos q1, if_pos c3, if_neg (by rw [g36, Bool.false_and]; exact Bool.noConfusion)]; exact .inl ⟨rfl, rfl⟩)
      | (rw [if_neg (by omega), if_pos q1, if_neg c3, if_neg (by rw [c5]; exact Bool.noConfusion)]; exact .inl ⟨rfl, rfl⟩)
      | (have e : (qbv k (putT l g.l)).take i = qbv k (putT l g.l) := List.take_of_length_le (by omega)
         rw [if_neg (by omega), if_pos q1, if_neg c3, if_pos c5, e]; exact .inr rfl)
      | trace_state
  try simp only [↓cqA, cqB] at c0
  refine qt (qa (qd (qb (zM rfl rfl rfl (zA rfl (qg rfl qaO rfl) (zA rfl (qr rfl qi rfl rfl rfl rfl rfl) ?_))))))
  refine qC (avs := [_, _]) true rfl rfl rfl (by decide) qcv rfl rfl (rApply_ok l hl g.l w1 m1) rfl rfl (zM rfl rfl rfl (zA rfl (qY rfl rfl rfl) (zA rfl (qY rfl rfl rfl) ?_)))
  refine qz rfl rfl (by decide) (qaf 7 rfl q6 rfl) rfl (qO rfl rfl rfl qi rfl rfl rfl rfl rfl rfl rfl rfl rfl (zN rfl rfl rfl (qc (qa (qd (qd (qb ?_))))))); refine zM rfl rfl rfl (zA rfl (qU rfl rfl) (qc (qa (qu rfl (fun c2 => ?_) (fun c2 => ?_)))))
  · try simp only [↓cqA, cqB] at c2
    refine qd (qb (zN rfl rfl rfl (qc (qa (qm (ql (?_)))))))
    -- leaf 0F2T
    refine ret0 (noL hL) (.inl rfl) (qf rfl (qh)) ?_ ?_
    · rfl
    refine ⟨?_, rfl⟩
    unfold rgL
    first
      | (rw [if_pos c0, if_pos c1]; exact .inr rfl)
      | (rw [if_pos c0, if_neg (by rw [c1]; exact Bool.noConfusion)]; exact .inl ⟨rfl, rfl⟩)
      | (rw [if_neg (by omega), if_neg (by rw [c2]; exact Bool.noConfusion)]; exact .inl ⟨rfl, rfl⟩)
      | (rw [if_neg (by omega), if_pos q1, if_pos c3, if_pos (by rw [g36, c4]; rfl)]; exact .inr rfl)
      | (rw [if_neg (by omega), if_pos q1, if_pos c3, if_neg (by rw [g36, c4]; exact Bool.noConfusion)]; exact .inl ⟨rfl, rfl⟩)
      | (rw [if_neg (by omega), if_pos q1, if_pos c3, if_neg (by rw [g36, Bool.false_and]; exact Bool.noConfusion)]; exact .inl ⟨rfl, rfl⟩)
      | (rw [if_neg (by omega), if_pos q1, if_neg c3, if_neg (by rw [c5]; exact Bool.noConfusion)]; exact .inl ⟨rfl, rfl⟩)
      | (have e : (qbv k (putT l g.l)).take i = qbv k (putT l g.l) := List.take_of_length_le (by omega)
         rw [if_neg (by omega), if_pos q1, if_neg c3, if_pos c5, e]; exact .inr rfl)
      | trace_state
  try simp only [↓cqA, cqB] at c2
  have q1 : mayT (putT l g.l) = true := by simpa using c2
  have e1 := intoT_may q1
  rw [e1]
  refine qt (qa (qd (qd (qbb (qcK hQ) (qb (zA rfl (qg rfl qaS rfl) (zA rfl (qr rfl qay rfl rfl rfl rfl rfl) ?_))))))); refine zA rfl (qn rfl rfl rfl rfl) (qc (qa (qu rfl (fun c3 => ?_) (fun c3 => ?_))))
  · try simp only [↓cqA, cqB] at c3
    refine qd (qd (qb (zA rfl (qw rfl qi rfl rfl rfl rfl) (qC (avs := [_]) true rfl rfl rfl (by decide) qa3 rfl rfl (rGround_ok (putT l g.l) p2 q1) rfl rfl (zM rfl rfl rfl (qA 36 rfl (fun g36 => ?_) (fun g36 => ?_)))))))
    · try simp only [↓cqA, cqB] at g36
      refine zG rfl rfl rfl rfl (qk (.inl rfl) rfl) (zG rfl rfl rfl rfl (qw rfl qi rfl rfl rfl rfl) (zG rfl rfl rfl rfl (qN (avs := [_, _]) true rfl en_almagestref10_there rfl rfl (there_ok k hkl hk2 (putT l g.l) p2) (fun _ => rfl) rfl) (zG rfl rfl rfl rfl (qU rfl rfl) (zA rfl (qj rfl rfl rfl) (qc (qa ?_))))))
      refine qu rfl (fun c4 => ?_) (fun c4 => ?_)
      · try simp only [↓cqA, cqB] at c4
        refine qd (qb (zM rfl rfl rfl (qz rfl rfl (by decide) (qS 43 rfl qH qa4 rfl rfl (by decide) (by decide) (by decide) rfl rfl rfl) rfl (qbA 43 false 1 rfl rfl rfl rfl (qar (qam (l := 43) rfl (by decide) (noL hL _) rfl rfl) (zN rfl rfl rfl (qc ?_))))))); refine qa (qm (ql (ql (?_))))
        -- leaf 0F2F3Tg36T4T
        refine ret0 (noL hL) (.inl rfl) (qf rfl (qh)) ?_ ?_
        · rfl
        refine ⟨?_, rfl⟩
        unfold rgL
        first
          | (rw [if_pos c0, if_pos c1]; exact .inr rfl)
          | (rw [if_pos c0, if_neg (by rw [c1]; exact Bool.noConfusion)]; exact .inl ⟨rfl, rfl⟩)
          | (rw [if_neg (by omega), if_neg (by rw [c2]; exact Bool.noConfusion)]; exact .inl ⟨rfl, rfl⟩)
          | (rw [if_neg (by omega), if_pos q1, if_pos c3, if_pos (by rw [g36, c4]; rfl)]; exact .inr rfl)
          | (rw [if_neg (by omega), if_pos q1, if_pos c3, if_neg (by rw [g36, c4]; exact Bool.noConfusion)]; exact .inl ⟨rfl, rfl⟩)
          | (rw [if_neg (by omega), if_pos q1, if_pos c3, if_neg (by rw [g36, Bool.false_and]; exact Bool.noConfusion)]; exact .inl ⟨rfl, rfl⟩)
          | (rw [if_neg (by omega), if_pos q1, if_neg c3, if_neg (by rw [c5]; exact Bool.noConfusion)]; exact .inl ⟨rfl, rfl⟩)
          | (have e : (qbv k (putT l g.l)).take i = qbv k (putT l g.l) := List.take_of_length_le (by omega)
             rw [if_neg (by omega), if_pos q1, if_neg c3, if_pos c5, e]; exact .inr rfl)
          | trace_state
      try simp only [↓cqA, cqB] at c4
      refine qt (qa (qd (qb (zN rfl rfl rfl (qc (qa (qm ?_))))))); refine ql (?_)
      -- leaf 0F2F3Tg36T4F
      refine ret0 (noL hL) (.inl rfl) (qf rfl (qh)) ?_ ?_
      · rfl
      refine ⟨?_, rfl⟩
      unfold rgL
      first
        | (rw [if_pos c0, if_pos c1]; exact .inr rfl)
        | (rw [if_pos c0, if_neg (by rw [c1]; exact Bool.noConfusion)]; exact .inl ⟨rfl, rfl⟩)
        | (rw [if_neg (by omega), if_neg (by rw [c2]; exact Bool.noConfusion)]; exact .inl ⟨rfl, rfl⟩)
        | (rw [if_neg (by omega), if_pos q1, if_pos c3, if_pos (by rw [g36, c4]; rfl)]; exact .inr rfl)
        | (rw [if_neg (by omega), if_pos q1, if_pos c3, if_neg (by rw [g36, c4]; exact Bool.noConfusion)]; exact .inl ⟨rfl, rfl⟩)
        | (rw [if_neg (by omega), if_pos q1, if_pos c3, if_neg (by rw [g36, Bool.false_and]; exact Bool.noConfusion)]; exact .inl ⟨rfl, rfl⟩)
        | (rw [if_neg (by omega), if_pos q1, if_neg c3, if_neg (by rw [c5]; exact Bool.noConfusion)]; exact .inl ⟨rfl, rfl⟩)
        | (have e : (qbv k (putT l g.l)).take i = qbv k (putT l g.l) := List.take_of_length_le (by omega)
           rw [if_neg (by omega), if_pos q1, if_neg c3, if_pos c5, e]; exact .inr rfl)
        | trace_state
    try simp only [↓cqA, cqB] at g36
    refine zS rfl rfl rfl rfl (zS rfl rfl rfl rfl (zS rfl rfl rfl rfl (zS rfl rfl rfl rfl (zA rfl (qj rfl rfl rfl) (qc (qa (qas rfl ?_)))))))
    refine qt (qa (qd (qb (zN rfl rfl rfl (qc (qa (qm ?_))))))); refine ql (?_)
    -- leaf 0F2F3Tg36F
    refine ret0 (noL hL) (.inl rfl) (qf rfl (qh)) ?_ ?_
    · rfl
    refine ⟨?_, rfl⟩
    unfold rgL
    first
      | (rw [if_pos c0, if_pos c1]; exact .inr rfl)
      | (rw [if_pos c0, if_neg (by rw [c1]; exact Bool.noConfusion)]; exact .inl ⟨rfl, rfl⟩)
      | (rw [if_neg (by omega), if_neg (by rw [c2]; exact Bool.noConfusion)]; exact .inl ⟨rfl, rfl⟩)
      | (rw [if_neg (by omega), if_pos q1, if_pos c3, if_pos (by rw [g36, c4]; rfl)]; exact .inr rfl)
      | (rw [if_neg (by omega), if_pos q1, if_pos c3, if_neg (by rw [g36, c4]; exact Bool.noConfusion)]; exact .inl ⟨rfl, rfl⟩)
      | (rw [if_neg (by omega), if_pos q1, if_pos c3, if_neg (by rw [g36, Bool.false_and]; exact Bool.noConfusion)]; exact .inl ⟨rfl, rfl⟩)
      | (rw [if_neg (by omega), if_pos q1, if_neg c3, if_neg (by rw [c5]; exact Bool.noConfusion)]; exact .inl ⟨rfl, rfl⟩)
      | (have e : (qbv k (putT l g.l)).take i = qbv k (putT l g.l) := List.take_of_length_le (by omega)
         rw [if_neg (by omega), if_pos q1, if_neg c3, if_pos c5, e]; exact .inr rfl)
      | trace_state
  try simp only [↓cqA, cqB] at c3
  refine qt (qa (qd (qd (qb (zA rfl (qw rfl qi rfl rfl rfl rfl) (qC (avs := [_]) true rfl rfl rfl (by decide) qbm rfl rfl (rAtom_ok (putT l g.l) (qao q1) p2) rfl rfl (zA rfl (qU rfl rfl) ?_))))))); refine qc (qa (qu rfl (fun c5 => ?_) (fun c5 => ?_)))
  · try simp only [↓cqA, cqB] at c5
    refine qd (qb (zN rfl rfl rfl (qc (qa (qm (ql (?_)))))))
    -- leaf 0F2F3F5T
    refine ret0 (noL hL) (.inl rfl) (qf rfl (qh)) ?_ ?_
    · rfl
    refine ⟨?_, rfl⟩
    unfold rgL
    first
      | (rw [if_pos c0, if_pos c1]; exact .inr rfl)
      | (rw [if_pos c0, if_neg (by rw [c1]; exact Bool.noConfusion)]; exact .inl ⟨rfl, rfl⟩)
      | (rw [if_neg (by omega), if_neg (by rw [c2]; exact Bool.noConfusion)]; exact .inl ⟨rfl, rfl⟩)
      | (rw [if_neg (by omega), if_pos q1, if_pos c3, if_pos (by rw [g36, c4]; rfl)]; exact .inr rfl)
      | (rw [if_neg (by omega), if_pos q1, if_pos c3, if_neg (by rw [g36, c4]; exact Bool.noConfusion)]; exact .inl ⟨rfl, rfl⟩)
      | (rw [if_neg (by omega), if_pos q1, if_pos c3, if_neg (by rw [g36, Bool.false_and]; exact Bool.noConfusion)]; exact .inl ⟨rfl, rfl⟩)
      | (rw [if_neg (by omega), if_pos q1, if_neg c3, if_neg (by rw [c5]; exact Bool.noConfusion)]; exact .inl ⟨rfl, rfl⟩)
      | (have e : (qbv k (putT l g.l)).take i = qbv k (putT l g.l) := List.take_of_length_le (by omega)
         rw [if_neg (by omega), if_pos q1, if_neg c3, if_pos c5, e]; exact .inr rfl)
      | trace_state
  try simp only [↓cqA, cqB] at c5
  refine qt (qa (qd (qb (zM rfl rfl rfl (zA rfl (qw rfl qi rfl rfl rfl rfl) ?_)))))
  refine qC (avs := [_, _]) true rfl rfl rfl (by decide) en_almagestref10_Ask rfl rfl (rAsk_ok k hkl hk (putT l g.l) p2 q1) rfl rfl (zN rfl rfl rfl (qc (qa (qd (qb (zN rfl rfl rfl (qc ?_))))))); refine qa (qd (qd (qb (zN rfl rfl rfl (qc (qa (qB ?_)))))))
  refine qV ((qbv k (putT l g.l)).length) (fun i => i ≤ (qbv k (putT l g.l)).length) (fun i => ⟨[(1, bdA l), (9, .dat true 1 (qaM (qbv k (putT l g.l)))), (10, .row 10), (11, iv (i : Int))], [(10, .rowd 28 1 true (qaM ((((qbv k (putT l g.l)).take i).filter fun y => decide (qcc l y = 0)).map fun y => qcf l y)))]⟩) (by omega) ?_ (fun i hi hpi => ?_)
  · exact Sub.trans (qaL (t := 10) (l := 10) 28 1 true rfl rfl) (qI (SubT.cons (zT rfl) (SubT.cons (zT rfl) (SubT.cons (zT rfl) (SubT.cons (zT rfl) (SubT.nil))))) (SubO.cons (qag rfl (by rfl)) (SubO.nil)) rfl rfl (noL' (noL hL) _))
  have hl2 : (qaM ((((qbv k (putT l g.l)).take i).filter fun y => decide (qcc l y = 0)).map fun y => qcf l y)).length ≤ k.length := by
    rw [qaJ, List.length_map]; have := filter_take_le (fun y => decide (qcc l y = 0)) (qbv k (putT l g.l)) i; omega
  refine qd (qd (qb (zM rfl rfl rfl (zM rfl rfl rfl (zA rfl (qy rfl qH rfl) (zA rfl (qn rfl rfl rfl rfl) (qc ?_))))))); refine qa (qu rfl (fun c6 => ?_) (fun c6 => ?_))
  · try simp only [↓cqA, cqB] at c6
    obtain ⟨u, hu⟩ := qK (l := qbv k (putT l g.l)) (k := i) (by omega)
    have hum := hab u (List.mem_of_getElem? hu)
    have hfs := filter_snoc (fun y => decide (qcc l y = 0)) hu
    refine qt (qa (qd (qB (qd (qb (zM rfl rfl rfl (zM rfl rfl rfl ?_))))))); refine zM rfl rfl rfl (zA rfl (qo rfl qH rfl rfl (by omega) (qbp hu)) (zA rfl (qR rfl qap rfl) ?_))
    refine qC (avs := [_, _]) true rfl rfl rfl (by decide) en_almagestref1_Join rfl rfl (rJoin_ok l u hl hum.1) rfl rfl (zM rfl rfl rfl (zA rfl (qY rfl rfl rfl) (zA rfl (qY rfl rfl rfl) (zN rfl rfl rfl ?_))))
    refine zN rfl rfl rfl (qc (qa (qd (qb (zM rfl rfl rfl (zA rfl (qn rfl rfl rfl rfl) (qc ?_))))))); refine qa (qu rfl (fun c7 => ?_) (fun c7 => ?_))
    · try simp only [↓cqA, cqB] at c7
      have hfe : qaM ((((qbv k (putT l g.l)).take (i + 1)).filter fun y => decide (qcc l y = 0)).map fun y => qcf l y) = qaM ((((qbv k (putT l g.l)).take i).filter fun y => decide (qcc l y = 0)).map fun y => qcf l y) ++ [[.sl 5 (bdDs (qcf l u))]] := by
        rw [hfs, if_pos (by simp [c7]), List.map_append, ← qcd]; rfl
      refine qb (zM rfl rfl rfl (zM rfl rfl rfl (qz rfl rfl (by decide) (qS 69 rfl qH qa4 rfl rfl (by decide) (by decide) (by decide) rfl rfl rfl) rfl (qbt rfl rfl (by decide) (qaA 70 qbw rfl rfl rfl rfl rfl rfl rfl rfl (noL hL _) (by omega) rfl) rfl ?_))))
      refine qar (qaE 70 10 (noL hL _) (noL hL _)) (zN rfl rfl rfl (qc (qP (qa (qb (zM rfl rfl rfl (zA rfl (qM rfl rfl rfl (by omega)) ?_))))))); refine zN rfl rfl rfl (qc (qa ?_)); refine ⟨?_, ?_, ?_⟩
      · skip
        omega
      · skip
        omega
      exact qI (SubT.cons (zT rfl) (SubT.cons (zT rfl) (SubT.cons (zT rfl) (SubT.cons (zT rfl) (SubT.nil))))) (SubO.cons (qag rfl (by rw [hfe]; try rfl)) (SubO.nil)) rfl rfl (noL' (noL hL) _)
    try simp only [↓cqA, cqB] at c7
    have hfe : qaM ((((qbv k (putT l g.l)).take (i + 1)).filter fun y => decide (qcc l y = 0)).map fun y => qcf l y) = qaM ((((qbv k (putT l g.l)).take i).filter fun y => decide (qcc l y = 0)).map fun y => qcf l y) := by
      rw [hfs, if_neg (by simp [c7]), List.append_nil]
    refine qt (qP (qa (qb (zM rfl rfl rfl (zA rfl (qM rfl rfl rfl (by omega)) (zN rfl rfl rfl (qc ?_))))))); refine qa ?_; refine ⟨?_, ?_, ?_⟩
    · skip
      omega
    · skip
      omega
    exact qI (SubT.cons (zT rfl) (SubT.cons (zT rfl) (SubT.cons (zT rfl) (SubT.cons (zT rfl) (SubT.nil))))) (SubO.cons (qag rfl (by rw [hfe]; try rfl)) (SubO.nil)) rfl rfl (noL' (noL hL) _)
  try simp only [↓cqA, cqB] at c6
  refine qQ (qq (qq (q7 ?_))); refine qa (qd (qbb (qam (l := 10) rfl (by decide) (noL hL _) rfl rfl) (qbb (qcK hQ) (qb (zM rfl rfl rfl (zN rfl rfl rfl (qc ?_))))))); refine qa (qm ?_)
  -- leaf 0F2F3F5F6F
  refine ret0 (noL hL) (.inl rfl) (qf rfl (qh)) ?_ ?_
  · rfl
  refine ⟨?_, rfl⟩
  unfold rgL
  first
    | (rw [if_pos c0, if_pos c1]; exact .inr rfl)
    | (rw [if_pos c0, if_neg (by rw [c1]; exact Bool.noConfusion)]; exact .inl ⟨rfl, rfl⟩)
    | (rw [if_neg (by omega), if_neg (by rw [c2]; exact Bool.noConfusion)]; exact .inl ⟨rfl, rfl⟩)
    | (rw [if_neg (by omega), if_pos q1, if_pos c3, if_pos (by rw [g36, c4]; rfl)]; exact .inr rfl)
    | (rw [if_neg (by omega), if_pos q1, if_pos c3, if_neg (by rw [g36, c4]; exact Bool.noConfusion)]; exact .inl ⟨rfl, rfl⟩)
    | (rw [if_neg (by omega), if_pos q1, if_pos c3, if_neg (by rw [g36, Bool.false_and]; exact Bool.noConfusion)]; exact .inl ⟨rfl, rfl⟩)
    | (rw [if_neg (by omega), if_pos q1, if_neg c3, if_neg (by rw [c5]; exact Bool.noConfusion)]; exact .inl ⟨rfl, rfl⟩)
    | (have e : (qbv k (putT l g.l)).take i = qbv k (putT l g.l) := List.take_of_length_le (by omega)
       rw [if_neg (by omega), if_pos q1, if_neg c3, if_pos c5, e]; exact .inr rfl)
    | trace_state
end Go.Proofs.YtdecgkhdbfgldaaGreat

set_option linter.unusedVariables false
set_option linter.unusedSimpArgs false
set_option maxRecDepth 8000
namespace Go.Proofs.YtdecgkhdbfgldaaGreat
open Go
def phStep (k : List Tm) (X : List (List Bd)) (g : Gd) : List (List Bd) := (X.flatMap fun b => rgL k b g).foldl addB []
def phX (k : List Tm) (l : List Bd) (gs : List Gd) : List (List Bd) := gs.foldl (phStep k) [l]
def phO (k : List Tm) (l : List Bd) (gs : List Gd) : Bool := (List.range gs.length).all fun i => decide ((phX k l (gs.take (i + 1))).length ≤ 1000)
def phL (k : List Tm) (l : List Bd) (gs : List Gd) : List (List Bd) := if phO k l gs = true then phX k l gs else []
theorem phX_snoc (k : List Tm) (l : List Bd) {gs : List Gd} {i : Nat} {g : Gd} (hg : gs[i]? = some g) : phX k l (gs.take (i + 1)) = phStep k (phX k l (gs.take i)) g := by
  rw [qah hg, phX, List.foldl_append]; rfl
theorem phX_all {k : List Tm} (hk : ∀ t ∈ k, t.wf ∧ mayT t = true) : ∀ (gs : List Gd) (X : List (List Bd)), (∀ g ∈ gs, g.wf) → (∀ y ∈ X, BOk y ∧ y.length ≤ 16) → ∀ y ∈ gs.foldl (phStep k) X, BOk y ∧ y.length ≤ 16
  | [], X, _, h => h
  | g :: gs, X, hg, h => phX_all hk gs (phStep k X g) (fun g' hg' => hg g' (by simp [hg'])) fun y hy => by
    rcases addB_mem _ _ y hy with hy | hy
    · cases hy
    · obtain ⟨b, hb, hy⟩ := List.mem_flatMap.1 hy
      exact rgL_bok hk (h b hb).1 (h b hb).2 (hg g (by simp)) y hy
theorem rHolds_ok (k : List Tm) (hkl : k.length ≤ 60) (hk : KG k) (l : List Bd) (hl : BOk l) (hl16 : l.length ≤ 16) (gs : List Gd) (hg : ∀ g ∈ gs, g.wf ∧ okG g = true) (hgl : gs.length ≤ 4) :
    PF 176 [.dat false 4 (tmDs k), bdA l, .dat false 9 (gdDs gs)] (.tup [.dat false 1 (qaM (phL k l gs)), bv (phO k l gs)]) := by
  refine AC_leP (Post := fun r O => (phO k l gs = false ∧ r = .tup [.imm (.slice none 0 0), bv false] ∨ r = .tup [.dat false 1 (qaM (phL k l gs)), bv (phO k l gs)]) ∧ O = []) ?_ (fun r O' h => by
    obtain ⟨⟨h1, rfl⟩ | rfl, rfl⟩ := h
    · exact ⟨_, .tup (.cons (.nil (f := false) (k := 1)) (.cons .refl .nil)), by rw [phL, h1, if_neg (by simp)]; rfl, rfl⟩
    · exact ⟨_, .refl, rfl, rfl⟩)
  have hlg := qbU gs
  have hlk := qaa k
  have hk2 : ∀ t ∈ k, t.wf ∧ mayT t = true := fun t ht => ⟨(hk t ht).1, (hk t ht).2.1⟩
  have hX0 : ∀ j, j ≤ 0 → (phX k l (gs.take j)).length ≤ 1000 := fun j hj => by
    have : j = 0 := by omega
    subst this; rw [List.take_zero]; simp [phX]
  refine qG Tryz.func176 rfl Tryz.ntmps176 (Nat.le_of_ble_eq_true rfl) fun c hL hQ hDD => (qd (qb (zN rfl rfl rfl (zN rfl rfl rfl (qc (qa (qd ?_))))))); refine qb ?_
  refine zM rfl rfl rfl (qbt rfl rfl (by decide) (qbC (avs := [_]) true rfl qaP rfl rfl (AC_rnE 3 77 (qcA 5 l (by omega) (fun b hb => qao (hl.el b hb).2) (fun b hb => (hl.el b hb).1))) (fun _ => rfl) rfl) rfl (qar (qam (l := 77) rfl (by decide) (noL hL _) rfl rfl) ?_))
  refine qar (qcK hQ) (qz rfl rfl (by decide) (qS 16 rfl qH qa4 rfl rfl (by decide) (by decide) (by decide) rfl rfl rfl) rfl (qbA 16 false 1 rfl rfl rfl rfl (qar (qam (l := 16) rfl (by decide) (noL hL _) rfl rfl) (zN rfl rfl rfl ?_))))
  refine qc (qa (qd (qd (qb (zN rfl rfl rfl (qc (qa ?_))))))); refine qB (qV (gs.length) (fun i => i ≤ gs.length ∧ ∀ j, j ≤ i → (phX k l (gs.take j)).length ≤ 1000) (fun i => ⟨[(0, .dat false 4 (tmDs k)), (2, .dat false 9 (gdDs gs)), (8, .dat false 1 (qaM (phX k l (gs.take i)))), (9, iv (i : Int))], []⟩) (⟨by omega, hX0⟩) ?_ (fun i hi hpi => ?_))
  · exact qI (SubT.cons (zT rfl) (SubT.cons (zT rfl) (SubT.cons (zT rfl) (SubT.cons (zT rfl) (SubT.nil))))) (SubO.nil) rfl rfl (noL' (noL hL) _)
  have hXl := hpi.2 i (Nat.le_refl _)
  have hXa : ∀ y ∈ phX k l (gs.take i), BOk y ∧ y.length ≤ 16 := phX_all hk2 (gs.take i) [l] (fun g hgm => (hg g (List.mem_of_mem_take hgm)).1) (fun y hy => by rw [List.mem_singleton.1 hy]; exact ⟨hl, hl16⟩)
  have hXd := qaJ (phX k l (gs.take i))
  generalize hX : phX k l (gs.take i) = X at *
  refine qd (qd (qb (zM rfl rfl rfl (zM rfl rfl rfl (zA rfl (qy rfl qac rfl) (zA rfl (qn rfl rfl rfl rfl) (qc ?_))))))); refine qa (qu rfl (fun c0 => ?_) (fun c0 => ?_))
  · try simp only [↓cqA, cqB] at c0
    obtain ⟨g, hgi⟩ := qK (l := gs) (k := i) (by omega)
    have hgm := hg g (List.mem_of_getElem? hgi)
    have hXs := phX_snoc k l hgi
    rw [hX] at hXs
    refine qt (qa (qd (qB (qd (qb (zN rfl rfl rfl (qc ?_))))))); refine qa (qd (qd (qb (zN rfl rfl rfl (qc ?_)))))
    refine qa (qB (qV (X.length) (fun j => j ≤ X.length) (fun j => ⟨[(0, .dat false 4 (tmDs k)), (2, .dat false 9 (gdDs gs)), (8, .dat false 1 (qaM X)), (9, iv (i : Int)), (10, .row 10), (11, iv (j : Int))], [(10, .rowd 28 1 false (qaM (((X.take j).flatMap fun b => rgL k b g).foldl addB [])))]⟩) (by omega) ?_ (fun j hj hpj => ?_)))
    · exact Sub.trans (qaL (t := 10) (l := 10) 28 1 false rfl rfl) (qI (SubT.cons (zT rfl) (SubT.cons (zT rfl) (SubT.cons (zT rfl) (SubT.cons (zT rfl) (SubT.cons (zT rfl) (SubT.cons (zT rfl) (SubT.nil))))))) (SubO.cons (qag rfl (by rfl)) (SubO.nil)) rfl rfl (noL' (noL hL) _))
    have hml : (((X.take j).flatMap fun b => rgL k b g).foldl addB []).length ≤ 61000 := by
      have h0 := qdh ((X.take j).flatMap fun b => rgL k b g) []
      have h1 := flatMap_len (fun b => rgL k b g) 61 (X.take j) fun b _ => by have := rgL_len k b g; omega
      have h2 : (X.take j).length ≤ 1000 := by simp; omega
      have h3 : (X.take j).length * 61 ≤ 1000 * 61 := Nat.mul_le_mul_right _ h2
      simp only [List.length_nil] at h0
      omega
    have hmb : ∀ y ∈ ((X.take j).flatMap fun b => rgL k b g).foldl addB [], BOk y := fun y hy => by
      rcases addB_mem _ _ y hy with hy | hy
      · cases hy
      · obtain ⟨b, hb, hy⟩ := List.mem_flatMap.1 hy
        have hbx := hXa b (List.mem_of_mem_take hb)
        first
          | exact (rgL_bok hk2 hbx.1 hbx.2 hgm.1 y hy).1
    generalize hA : ((X.take j).flatMap fun b => rgL k b g).foldl addB [] = A at *
    refine qd (qd (qb (zM rfl rfl rfl (zM rfl rfl rfl (zA rfl (qy rfl qH rfl) (zA rfl (qn rfl rfl rfl rfl) (qc ?_))))))); refine qa (qu rfl (fun c1 => ?_) (fun c1 => ?_))
    · try simp only [↓cqA, cqB] at c1
      obtain ⟨b, hb⟩ := qK (l := X) (k := j) (by omega)
      have hbm := hXa b (List.mem_of_getElem? hb)
      have hbl := rgL_len k b g
      have hbd := qaJ (rgL k b g)
      have hbr := rgL_bok hk2 hbm.1 hbm.2 hgm.1
      refine qt (qa (qd (qB (qd (q8 9 qbd rfl rfl rfl rfl (qe rfl (by decide) (.run rfl (qk (.inl rfl) rfl)) (qe rfl (by decide) (.run rfl (qk (.inl rfl) rfl)) ?_))))))); refine qe rfl (by decide) (.run rfl (qk (.inl rfl) rfl)) (qe rfl (by decide) (.run rfl (qo rfl qH rfl rfl (by omega) (qbp hb))) (qe rfl (by decide) (.run rfl (qR rfl qap rfl)) ?_))
      refine qe rfl (by decide) (.run rfl (qk (.inl rfl) rfl)) (qe rfl (by decide) (.run rfl (qk (.inl rfl) rfl)) (qe rfl (by decide) (.run rfl (qo rfl qac rfl rfl (by omega) (gdDs_get hgi))) (qe rfl (by decide) (.run rfl (qD rfl qaz rfl rfl)) ?_)))
      refine qau ⟨rfl, rfl, ?_⟩; refine qC (avs := [_, _, _]) false rfl rfl rfl (by decide) en_almagestref10_guarded rfl rfl (rguarded_ok k hkl hk b hbm.1 hbm.2 g hgm.1 hgm.2) rfl rfl (zN rfl rfl rfl (qc (qa (qd (qb (zN rfl rfl rfl (qc ?_))))))); refine qa (qB ?_)
      refine qV ((rgL k b g).length) (fun m => m ≤ (rgL k b g).length) (fun m => ⟨[(0, .dat false 4 (tmDs k)), (2, .dat false 9 (gdDs gs)), (8, .dat false 1 (qaM X)), (9, iv (i : Int)), (10, .row 10), (11, iv (j : Int)), (12, .dat false 1 (qaM (rgL k b g))), (13, iv (m : Int))], [(10, .rowd 28 1 false (qaM (((rgL k b g).take m).foldl addB A)))]⟩) (by omega) ?_ (fun m hm hpm => ?_)
      · exact qI (SubT.cons (zT rfl) (SubT.cons (zT rfl) (SubT.cons (zT rfl) (SubT.cons (zT rfl) (SubT.cons (zT rfl) (SubT.cons (zT rfl) (SubT.cons (zT rfl) (SubT.cons (zT rfl) (SubT.nil))))))))) (SubO.cons (qag rfl (by rfl)) (SubO.nil)) rfl rfl (noL' (noL hL) _)
      have hcl : (((rgL k b g).take m).foldl addB A).length ≤ 61061 := by
        have h0 := qdh ((rgL k b g).take m) A
        have h2 : ((rgL k b g).take m).length ≤ 61 := by simp; omega
        omega
      have hcd := qaJ (((rgL k b g).take m).foldl addB A)
      have hcb : ∀ y ∈ ((rgL k b g).take m).foldl addB A, BOk y := fun y hy => by
        rcases addB_mem _ _ y hy with hy | hy
        · exact hmb y hy
        · exact (hbr y (List.mem_of_mem_take hy)).1
      refine qd (qd (qb (zM rfl rfl rfl (zM rfl rfl rfl (zA rfl (qy rfl qH rfl) (zA rfl (qn rfl rfl rfl rfl) (qc ?_))))))); refine qa (qu rfl (fun c2 => ?_) (fun c2 => ?_))
      · try simp only [↓cqA, cqB] at c2
        obtain ⟨y, hy⟩ := qK (l := rgL k b g) (k := m) (by omega)
        have hym := hbr y (List.mem_of_getElem? hy)
        have hys : ((rgL k b g).take (m + 1)).foldl addB A = addB (((rgL k b g).take m).foldl addB A) y := by rw [qah hy, foldl_snoc]
        refine qt (qa (qd (qB (qd (qb (zM rfl rfl rfl (zM rfl rfl rfl ?_))))))); refine zM rfl rfl rfl (zA rfl (qo rfl qH rfl rfl (by omega) (qbp hy)) (zA rfl (qR rfl qap rfl) ?_))
        refine qC (avs := [_, _]) true rfl rfl rfl (by decide) en_almagestref10_among rfl rfl (among_ok (((rgL k b g).take m).foldl addB A) (by omega) hcb y hym.1) rfl rfl (zA rfl (qU rfl rfl) (qc (qa (qu rfl (fun c3 => ?_) (fun c3 => ?_)))))
        · try simp only [↓cqA, cqB] at c3
          have hfe : ((rgL k b g).take (m + 1)).foldl addB A = ((rgL k b g).take m).foldl addB A ++ [y] := by
            rw [hys, addB, if_neg (by rw [c3]; exact Bool.noConfusion)]
          refine qb (zM rfl rfl rfl (zM rfl rfl rfl (zM rfl rfl rfl (zA rfl (qo rfl qH rfl rfl (by omega) (qbp hy)) (zA rfl (qR rfl qap rfl) (qz rfl rfl (by decide) (qS 57 rfl qH qa4 rfl rfl (by decide) (by decide) (by decide) rfl rfl rfl) rfl ?_))))))
          refine qbt rfl rfl (by decide) (qaA 58 qbw rfl rfl rfl rfl rfl rfl rfl rfl (noL hL _) (by omega) rfl) rfl (qar (qaE 58 10 (noL hL _) (noL hL _)) (zN rfl rfl rfl (qc (qP (qa (qb (zM rfl rfl rfl ?_))))))); refine zA rfl (qM rfl rfl rfl (by omega)) ?_
          refine zN rfl rfl rfl (qc (qa ?_)); refine ⟨?_, ?_, ?_⟩
          · skip
            omega
          · skip
            omega
          exact qI (SubT.cons (zT rfl) (SubT.cons (zT rfl) (SubT.cons (zT rfl) (SubT.cons (zT rfl) (SubT.cons (zT rfl) (SubT.cons (zT rfl) (SubT.cons (zT rfl) (SubT.cons (zT rfl) (SubT.nil))))))))) (SubO.cons (qag rfl (by rw [hfe]; try rw [qcd]; try rfl)) (SubO.nil)) rfl rfl (noL' (noL hL) _)
        try simp only [↓cqA, cqB] at c3
        have hfe : ((rgL k b g).take (m + 1)).foldl addB A = ((rgL k b g).take m).foldl addB A := by
          rw [hys, addB, if_pos (by simpa using c3)]
        refine qt (qP (qa (qb (zM rfl rfl rfl (zA rfl (qM rfl rfl rfl (by omega)) (zN rfl rfl rfl (qc ?_))))))); refine qa ?_; refine ⟨?_, ?_, ?_⟩
        · skip
          omega
        · skip
          omega
        exact qI (SubT.cons (zT rfl) (SubT.cons (zT rfl) (SubT.cons (zT rfl) (SubT.cons (zT rfl) (SubT.cons (zT rfl) (SubT.cons (zT rfl) (SubT.cons (zT rfl) (SubT.cons (zT rfl) (SubT.nil))))))))) (SubO.cons (qag rfl (by rw [hfe]; try rw [qcd]; try rfl)) (SubO.nil)) rfl rfl (noL' (noL hL) _)
      try simp only [↓cqA, cqB] at c2
      refine qQ (qq (qq (q7 ?_))); refine qP (qa (qb (zM rfl rfl rfl (zA rfl (qM rfl rfl rfl (by omega)) (zN rfl rfl rfl (qc (qa ?_))))))); refine ⟨?_, ?_, ?_⟩
      · skip
        omega
      · skip
        omega
      exact qI (SubT.cons (zT rfl) (SubT.cons (zT rfl) (SubT.cons (zT rfl) (SubT.cons (zT rfl) (SubT.cons (zT rfl) (SubT.cons (zT rfl) (SubT.nil))))))) (SubO.cons (qag rfl (by rw [qah hb, List.flatMap_append, List.foldl_append, hA, List.take_of_length_le (show (rgL k b g).length ≤ m by omega)]; simp only [List.flatMap_cons, List.flatMap_nil, List.append_nil])) (SubO.nil)) rfl rfl (noL' (noL hL) _)
    try simp only [↓cqA, cqB] at c1
    refine qQ (qq (qq (q7 ?_))); refine qa (qd (qd ?_))
    have hjl : X.take j = X := List.take_of_length_le (by omega)
    rw [hjl] at hA
    have hAs : phX k l (gs.take (i + 1)) = A := by rw [hXs, phStep, hA]
    have hAd := qaJ A
    refine qb (zM rfl rfl rfl (zA rfl (qbI rfl qH rfl rfl) (zA rfl (qn rfl rfl rfl rfl) (qc (qa (qu rfl (fun c4 => ?_) (fun c4 => ?_)))))))
    · try simp only [↓cqA, cqB] at c4
      have hbad : phO k l gs = false := List.all_eq_false.2 ⟨i, List.mem_range.2 (by omega), by
        rw [hAs]; intro h; have h2 := of_decide_eq_true h; omega⟩
      refine qd (qb (zN rfl rfl rfl (zN rfl rfl rfl (qc (qa (qm (ql (qL (ql (ql (qL (ql (?_)))))))))))))
      -- leaf 0T1F4T
      refine ret0 (noL hL) (.inl rfl) (qf rfl (qf rfl (qh))) ?_ ?_
      · rfl
      refine ⟨?_, rfl⟩
      first
        | exact .inl ⟨hbad, rfl⟩
        | (have hil : gs.take i = gs := List.take_of_length_le (by omega)
           rw [hil] at hX
           have hgo : phO k l gs = true := List.all_eq_true.2 fun j hj => by
             have := hpi.2 (j + 1) (by have := List.mem_range.1 hj; omega)
             simpa using this
           rw [hgo, phL, if_pos hgo, hX]; exact .inr rfl)
        | trace_state
    try simp only [↓cqA, cqB] at c4
    refine qt (qa (qbb (qam (l := 10) rfl (by decide) (noL hL _) rfl rfl) (qb (zM rfl rfl rfl (zN rfl rfl rfl (qc (qP ?_))))))); refine qa (qb ?_)
    refine zM rfl rfl rfl (zA rfl (qM rfl rfl rfl (by omega)) (zN rfl rfl rfl (qc (qa ?_)))); refine ⟨?_, ?_, ?_⟩
    · skip
      omega
    · skip
      refine ⟨by omega, fun j hj => ?_⟩
      by_cases hji : j ≤ i
      · exact hpi.2 j hji
      · rw [show j = i + 1 by omega, hAs]; omega
    exact qI (SubT.cons (zT rfl) (SubT.cons (zT rfl) (SubT.cons (qbg rfl (by rw [hAs]; try rfl)) (SubT.cons (zT rfl) (SubT.nil))))) (SubO.nil) rfl rfl (noL' (noL hL) _)
  try simp only [↓cqA, cqB] at c0
  refine qQ (qq (qq (q7 ?_))); refine qa (qd (qb (zM rfl rfl rfl (zN rfl rfl rfl (zN rfl rfl rfl (qc (qa ?_))))))); refine qm ?_
  -- leaf 0F
  refine ret0 (noL hL) (.inl rfl) (qf rfl (qf rfl (qh))) ?_ ?_
  · rfl
  refine ⟨?_, rfl⟩
  first
    | exact .inl ⟨hbad, rfl⟩
    | (have hil : gs.take i = gs := List.take_of_length_le (by omega)
       rw [hil] at hX
       have hgo : phO k l gs = true := List.all_eq_true.2 fun j hj => by
         have := hpi.2 (j + 1) (by have := List.mem_range.1 hj; omega)
         simpa using this
       rw [hgo, phL, if_pos hgo, hX]; exact .inr rfl)
    | trace_state
theorem EqBindListsSelf_ok (X : List (List Bd)) (hX : X.length ≤ 1000000) (hb : ∀ x ∈ X, BOk x) : PF 177 [.dat false 1 (qaM X), .dat false 1 (qaM X)] (bv true) := by
  have hlen := qaJ X
  refine qG Tryz.func177 rfl Tryz.ntmps177 (Nat.le_of_ble_eq_true rfl) fun c hL hQ hDD => (qd (qb (zN rfl rfl rfl (qc (qa (qd (qd ?_))))))); refine qb (zM rfl rfl rfl (zA rfl (qy rfl qH rfl) (zM rfl rfl rfl (zA rfl (qy rfl qH rfl) ?_))))
  refine zA rfl (qn rfl rfl rfl rfl) (qc (qa (qu rfl (fun c0 => ?_) (fun c0 => ?_))))
  · try simp only [↓cqA, cqB] at c0
    refine qd (qb (zN rfl rfl rfl (qc (qa (qm (ql (?_)))))))
    -- leaf 0T
    refine ret0 (noL hL) (.inl rfl) (qf rfl (qh)) ?_ ?_
    · rfl
    first
    | exact ⟨rfl, rfl⟩
    | exact absurd trivial c0
    | exact absurd rfl c0
    | exact Bool.noConfusion (show true = false by assumption)
    | trace_state
  try simp only [↓cqA, cqB] at c0
  refine qt (qa (qd (qd (qb (zN rfl rfl rfl (qc (qa ?_))))))); refine qB (qV (X.length) (fun i => i ≤ X.length) (fun i => ⟨[(0, .dat false 1 (qaM X)), (1, .dat false 1 (qaM X)), (5, iv (i : Int))], []⟩) (by omega) ?_ (fun i hi hpi => ?_))
  · exact qI (SubT.cons (zT rfl) (SubT.cons (zT rfl) (SubT.cons (zT rfl) (SubT.nil)))) (SubO.nil) rfl rfl (noL' (noL hL) _)
  refine qd (qd (qb (zM rfl rfl rfl (zM rfl rfl rfl (zA rfl (qy rfl qH rfl) (zA rfl (qn rfl rfl rfl rfl) (qc ?_))))))); refine qa (qu rfl (fun c1 => ?_) (fun c1 => ?_))
  · try simp only [↓cqA, cqB] at c1
    obtain ⟨u, hu⟩ := qK (l := X) (k := i) (by omega)
    have hum := hb u (List.mem_of_getElem? hu)
    have hul := hum.len
    refine qt (qa (qd (qB (qd (q8 8 qbd rfl rfl rfl rfl (qe rfl (by decide) (.run rfl (qk (.inl rfl) rfl)) (qe rfl (by decide) (.run rfl (qk (.inl rfl) rfl)) ?_))))))); refine qe rfl (by decide) (.run rfl (qo rfl qH rfl rfl (by omega) (qbp hu))) (qe rfl (by decide) (.run rfl (qR rfl qap rfl)) ?_)
    refine qe rfl (by decide) (.run rfl (qk (.inl rfl) rfl)) (qe rfl (by decide) (.run rfl (qk (.inl rfl) rfl)) (qe rfl (by decide) (.run rfl (qo rfl qH rfl rfl (by omega) (qbp hu))) (qe rfl (by decide) (.run rfl (qR rfl qap rfl)) ?_)))
    refine qau ⟨rfl, rfl, ?_⟩; refine qC (avs := [_, _]) true rfl rfl rfl (by decide) qbH rfl rfl (EqBindsSelf_ok 5 u (fun x hx => qao (hum.el x hx).2) (fun x hx => (hum.el x hx).1) (by omega)) rfl rfl (zA rfl (qU rfl rfl) (qc (qa (qu rfl (fun c2 => ?_) (fun c2 => ?_)))))
    · try simp only [↓cqA, cqB] at c2
      refine qd (qb (zN rfl rfl rfl (qc (qa (qm (qL (ql (ql (qL (ql (?_)))))))))))
      -- leaf 0F1T2T
      refine ret0 (noL hL) (.inl rfl) (qf rfl (qh)) ?_ ?_
      · rfl
      first
      | exact ⟨rfl, rfl⟩
      | exact absurd trivial c0
      | exact absurd rfl c0
      | exact Bool.noConfusion (show true = false by assumption)
      | trace_state
    try simp only [↓cqA, cqB] at c2
    refine qt (qP (qa (qb (zM rfl rfl rfl (zA rfl (qM rfl rfl rfl (by omega)) (zN rfl rfl rfl (qc ?_))))))); refine qa ?_; refine ⟨?_, ?_, ?_⟩
    · skip
      omega
    · skip
      omega
    exact qI (SubT.cons (zT rfl) (SubT.cons (zT rfl) (SubT.cons (zT rfl) (SubT.nil)))) (SubO.nil) rfl rfl (noL' (noL hL) _)
  try simp only [↓cqA, cqB] at c1
  refine qQ (qq (qq (q7 ?_))); refine qa (qd (qb (zN rfl rfl rfl (qc (qa (qm ?_))))))
  -- leaf 0F1F
  refine ret0 (noL hL) (.inl rfl) (qf rfl (qh)) ?_ ?_
  · rfl
  first
  | exact ⟨rfl, rfl⟩
  | exact absurd trivial c0
  | exact absurd rfl c0
  | exact Bool.noConfusion (show true = false by assumption)
  | trace_state
theorem EqGuardSelf_ok (d : Nat) (g : Gd) (hl : dle d g.l) (hr : dle d g.r) (hg : g.wf) : PF 224 [gdA g, gdA g] (bv true) := by
  have w1 := hg.2.1
  have w2 := hg.2.2
  have k1 := qcz d g.l g.l hl w1 w1
  have k2 := qcz d g.r g.r hr w2 w2
  rw [eqT_selfd hl] at k1
  rw [eqT_selfd hr] at k2
  refine qG Tryz.func224 rfl Tryz.ntmps224 (Nat.le_of_ble_eq_true rfl) fun c hL hQ hDD => (qd (qb (qz rfl rfl (by decide) (qab 2 rfl rfl rfl) rfl (qz rfl rfl (by decide) (qab 3 rfl rfl rfl) rfl (zN rfl rfl rfl (qc (qa ?_))))))); refine qd (qb (zA rfl (qg rfl qaS rfl) (zA rfl (qr rfl qay rfl rfl rfl rfl rfl) ?_)))
  refine zA rfl (qg rfl qaS rfl) (zA rfl (qr rfl qay rfl rfl rfl rfl rfl) (zA rfl (qn rfl rfl rfl rfl) (zM rfl rfl rfl (qA 10 rfl (fun g10 => ?_) (fun g10 => ?_)))))
  · try simp only [↓cqA, cqB] at g10
    refine zG rfl rfl rfl rfl (qg rfl qaO rfl) (zG rfl rfl rfl rfl (qr rfl qi rfl rfl rfl rfl rfl) (zG rfl rfl rfl rfl (qg rfl qaO rfl) (zG rfl rfl rfl rfl (qr rfl qi rfl rfl rfl rfl rfl) ?_)))
    refine zG rfl rfl rfl rfl (qN (avs := [_, _]) true rfl qaC rfl rfl (k1) (fun _ => rfl) rfl) (zA rfl (qj rfl rfl rfl) (zM rfl rfl rfl (qA 17 rfl (fun g17 => ?_) (fun g17 => ?_))))
    · try simp only [↓cqA, cqB] at g17
      refine zG rfl rfl rfl rfl (qg rfl qa1 rfl) (zG rfl rfl rfl rfl (qr rfl qi rfl rfl rfl rfl rfl) (zG rfl rfl rfl rfl (qg rfl qa1 rfl) (zG rfl rfl rfl rfl (qr rfl qi rfl rfl rfl rfl rfl) ?_)))
      refine zG rfl rfl rfl rfl (qN (avs := [_, _]) true rfl qaC rfl rfl (k2) (fun _ => rfl) rfl) (zA rfl (qj rfl rfl rfl) (zN rfl rfl rfl (qc (qa (qm ?_)))))
      -- leaf g10Tg17T
      refine ret0 (noL hL) (.inl rfl) (qf rfl (qh)) ?_ ?_
      · rfl
      refine ⟨qW ?_, rfl⟩
      first | rfl | simp_all
    try simp only [↓cqA, cqB] at g17
    refine zS rfl rfl rfl rfl (zS rfl rfl rfl rfl (zS rfl rfl rfl rfl (zS rfl rfl rfl rfl (zS rfl rfl rfl rfl (zA rfl (qj rfl rfl rfl) (zN rfl rfl rfl (qc ?_))))))); refine qa (qm ?_)
    -- leaf g10Tg17F
    refine ret0 (noL hL) (.inl rfl) (qf rfl (qh)) ?_ ?_
    · rfl
    refine ⟨qW ?_, rfl⟩
    first | rfl | simp_all
  try simp only [↓cqA, cqB] at g10
  refine zS rfl rfl rfl rfl (zS rfl rfl rfl rfl (zS rfl rfl rfl rfl (zS rfl rfl rfl rfl (zS rfl rfl rfl rfl (zA rfl (qj rfl rfl rfl) ?_)))))
  refine zM rfl rfl rfl (zS rfl rfl rfl rfl (zS rfl rfl rfl rfl (zS rfl rfl rfl rfl (zS rfl rfl rfl rfl (zS rfl rfl rfl rfl (zA rfl (qj rfl rfl rfl) (zN rfl rfl rfl ?_))))))); refine qc (qa (qm ?_))
  -- leaf g10F
  refine ret0 (noL hL) (.inl rfl) (qf rfl (qh)) ?_ ?_
  · rfl
  refine ⟨qW ?_, rfl⟩
  first | rfl | simp_all
theorem EqGuardsSelf_ok (d : Nat) (x : List Gd) (hd : ∀ g ∈ x, dle d g.l ∧ dle d g.r) (wx : ∀ g ∈ x, g.wf) (lx : x.length ≤ 140737488351232) : PF 178 [.dat false 9 (gdDs x), .dat false 9 (gdDs x)] (bv true) := by
  have hlx := qbU x
  refine qG Tryz.func178 rfl Tryz.ntmps178 (Nat.le_of_ble_eq_true rfl) fun c hL hQ hDD => (qd (qb (zN rfl rfl rfl (qc (qa (qd (qd ?_))))))); refine qb (zM rfl rfl rfl (zA rfl (qy rfl qac rfl) (zM rfl rfl rfl (zA rfl (qy rfl qac rfl) ?_))))
  refine zA rfl (qn rfl rfl rfl rfl) (qc (qa (qu rfl (fun c0 => ?_) (fun c0 => ?_))))
  · try simp only [↓cqA, cqB] at c0
    refine qd (qb (zN rfl rfl rfl (qc (qa (qm (ql (?_)))))))
    -- leaf 0T
    refine ret0 (noL hL) (.inl rfl) (qf rfl (qh)) ?_ ?_
    · rfl
    first
    | exact ⟨rfl, rfl⟩
    | exact absurd trivial c0
    | exact absurd rfl c0
    | exact Bool.noConfusion (show true = false by assumption)
    | trace_state
  try simp only [↓cqA, cqB] at c0
  refine qt (qa (qd (qd (qb (zN rfl rfl rfl (qc (qa ?_))))))); refine qB (qV (x.length) (fun k => k ≤ x.length) (fun k => ⟨[(0, .dat false 9 (gdDs x)), (1, .dat false 9 (gdDs x)), (5, iv (k : Int))], []⟩) (by omega) ?_ (fun k hk hp => ?_))
  · exact qI (SubT.cons (zT rfl) (SubT.cons (zT rfl) (SubT.cons (zT rfl) (SubT.nil)))) (SubO.nil) rfl rfl (noL' (noL hL) _)
  refine qd (qd (qb (zM rfl rfl rfl (zM rfl rfl rfl (zA rfl (qy rfl qac rfl) (zA rfl (qn rfl rfl rfl rfl) (qc ?_))))))); refine qa (qu rfl (fun c1 => ?_) (fun c1 => ?_))
  · try simp only [↓cqA, cqB] at c1
    obtain ⟨u, hu⟩ := qK (l := x) (k := k) (by omega)
    have hum := List.mem_of_getElem? hu
    refine qt (qa (qd (qB (qd (q8 8 qbd rfl rfl rfl rfl (qe rfl (by decide) (.run rfl (qk (.inl rfl) rfl)) (qe rfl (by decide) (.run rfl (qk (.inl rfl) rfl)) ?_))))))); refine qe rfl (by decide) (.run rfl (qo rfl qac rfl rfl (by omega) (gdDs_get hu))) (qe rfl (by decide) (.run rfl (qD rfl qaz rfl rfl)) ?_)
    refine qe rfl (by decide) (.run rfl (qk (.inl rfl) rfl)) (qe rfl (by decide) (.run rfl (qk (.inl rfl) rfl)) (qe rfl (by decide) (.run rfl (qo rfl qac rfl rfl (by omega) (gdDs_get hu))) (qe rfl (by decide) (.run rfl (qD rfl qaz rfl rfl)) ?_)))
    refine qau ⟨rfl, rfl, ?_⟩; refine qC (avs := [_, _]) true rfl rfl rfl (by decide) en_almagestref0_EqGuard rfl rfl (EqGuardSelf_ok d u (hd u hum).1 (hd u hum).2 (wx u hum)) rfl rfl (zA rfl (qU rfl rfl) (qc (qa (qu rfl (fun c2 => ?_) (fun c2 => ?_)))))
    · try simp only [↓cqA, cqB] at c2
      refine qd (qb (zN rfl rfl rfl (qc (qa (qm (qL (ql (ql (qL (ql (?_)))))))))))
      -- leaf 0F1T2T
      refine ret0 (noL hL) (.inl rfl) (qf rfl (qh)) ?_ ?_
      · rfl
      first
      | exact ⟨rfl, rfl⟩
      | exact absurd trivial c0
      | exact absurd rfl c0
      | exact Bool.noConfusion (show true = false by assumption)
      | trace_state
    try simp only [↓cqA, cqB] at c2
    refine qt (qP (qa (qb (zM rfl rfl rfl (zA rfl (qM rfl rfl rfl (by omega)) (zN rfl rfl rfl (qc ?_))))))); refine qa ?_; refine ⟨?_, ?_, ?_⟩
    · skip
      omega
    · skip
      omega
    exact qI (SubT.cons (zT rfl) (SubT.cons (zT rfl) (SubT.cons (zT rfl) (SubT.nil)))) (SubO.nil) rfl rfl (noL' (noL hL) _)
  try simp only [↓cqA, cqB] at c1
  refine qQ (qq (qq (q7 ?_))); refine qa (qd (qb (zN rfl rfl rfl (qc (qa (qm ?_))))))
  -- leaf 0F1F
  refine ret0 (noL hL) (.inl rfl) (qf rfl (qh)) ?_ ?_
  · rfl
  first
  | exact ⟨rfl, rfl⟩
  | exact absurd trivial c0
  | exact absurd rfl c0
  | exact Bool.noConfusion (show true = false by assumption)
  | trace_state
theorem CopyGuard_ok (d : Nat) (g : Gd) (hl : dle d g.l) (hr : dle d g.r) (hg : g.wf) : PF 219 [gdA g] (.agg (lift true (gdD g))) := by
  have w1 := hg.2.1
  have w2 := hg.2.2
  refine qG Tryz.func219 rfl Tryz.ntmps219 (Nat.le_of_ble_eq_true rfl) fun c hL hQ hDD => (qd (qb (qz rfl rfl (by decide) (qab 1 rfl rfl rfl) rfl (qz rfl rfl (by decide) (qaf 2 rfl qcn rfl) rfl (qc (qa (qd ?_))))))); refine qb (zA rfl (qw rfl qaz rfl rfl rfl rfl) ?_)
  refine qz rfl rfl (by decide) (qaf 3 rfl qcn rfl) rfl (qO rfl rfl rfl qaz rfl rfl rfl rfl rfl rfl rfl rfl rfl (qc (qa (qd (qb (zA rfl (qg rfl qaO rfl) (zA rfl (qr rfl qi rfl rfl rfl rfl rfl) ?_))))))); refine qC (avs := [_]) true rfl rfl rfl (by decide) qa5 rfl rfl (CopyTerm_ok d g.l hl w1) rfl rfl ?_
  refine zA rfl (qg rfl qaO rfl) (qO rfl rfl rfl qi rfl rfl rfl rfl rfl rfl rfl rfl rfl (qc (qa (qd (qb (zA rfl (qg rfl qa1 rfl) (zA rfl (qr rfl qi rfl rfl rfl rfl rfl) ?_))))))); refine qC (avs := [_]) true rfl rfl rfl (by decide) qa5 rfl rfl (CopyTerm_ok d g.r hr w2) rfl rfl ?_
  refine zA rfl (qg rfl qa1 rfl) (qO rfl rfl rfl qi rfl rfl rfl rfl rfl rfl rfl rfl rfl (qc (qa (qd (qb (zA rfl (qw rfl qaz rfl rfl rfl rfl) (qO rfl rfl rfl qaz rfl rfl rfl rfl rfl rfl rfl rfl rfl ?_))))))); refine qc (qa (qm ?_))
  -- leaf 
  refine ret0 (noL hL) (.inl rfl) (qaU qaz rfl rfl rfl (qh)) ?_ ?_
  · rfl
  exact ⟨rfl, rfl⟩
theorem CopyGuards_ok (d : Nat) (x : List Gd) (hl : x.length ≤ 1000000000) (hd : ∀ g ∈ x, dle d g.l ∧ dle d g.r) (hw : ∀ g ∈ x, g.wf) : AC Tryz.prog 173 [.dat false 9 (gdDs x)] [] (fun r O => r = .row 3 ∧ O = [(3, .rowd 111 9 true (gdDs x))]) := by
  have hlen := qbU x
  refine qG Tryz.func173 rfl Tryz.ntmps173 (Nat.le_of_ble_eq_true rfl) fun c hL hQ hDD => (qd (qb (zN rfl rfl rfl (qc (qa (qd (qb ?_))))))); refine zN rfl rfl rfl (qc (qa ?_))
  refine qd (qd (qb (zN rfl rfl rfl (qc (qa (qB (qV (x.length) (fun k => k ≤ x.length) (fun k => ⟨[(0, .dat false 9 (gdDs x)), (3, .row 3), (4, iv (k : Int))], [(3, .rowd 111 9 true (gdDs (x.take k)))]⟩) (by omega) ?_ (fun k hk hp => ?_))))))))
  · exact Sub.trans (qaL (t := 3) (l := 3) 111 9 true rfl rfl) (qI (SubT.cons (zT rfl) (SubT.cons (zT rfl) (SubT.cons (zT rfl) (SubT.nil)))) (SubO.cons (qag rfl (by rfl)) (SubO.nil)) rfl rfl (noL' (noL hL) _))
  have hl2 : (gdDs (x.take k)).length ≤ x.length := by rw [qbU, List.length_take]; omega
  refine qd (qd (qb (zM rfl rfl rfl (zM rfl rfl rfl (zA rfl (qy rfl qac rfl) (zA rfl (qn rfl rfl rfl rfl) (qc ?_))))))); refine qa (qu rfl (fun c0 => ?_) (fun c0 => ?_))
  · try simp only [↓cqA, cqB] at c0
    obtain ⟨u, hu⟩ := qK (l := x) (k := k) (by omega)
    have hum := List.mem_of_getElem? hu
    refine qt (qa (qd (qB (qb (zM rfl rfl rfl (zM rfl rfl rfl (zM rfl rfl rfl ?_))))))); refine zA rfl (qo rfl qac rfl rfl (by omega) (gdDs_get hu)) (zA rfl (qD rfl qaz rfl rfl) ?_)
    refine qC (avs := [_]) true rfl rfl rfl (by decide) en_almagestref0_CopyGuard rfl rfl (CopyGuard_ok d u (hd u hum).1 (hd u hum).2 (hw u hum)) rfl rfl (qz rfl rfl (by decide) (qS 17 rfl qac qcn rfl rfl (by decide) (by decide) (by decide) rfl rfl rfl) rfl (qbt rfl rfl (by decide) (qaA 18 ta_S_api_Guard rfl rfl rfl rfl rfl rfl rfl rfl (noL hL _) (by omega) rfl) rfl ?_))
    refine zN rfl rfl rfl (qc (qP (qa (qb (zM rfl rfl rfl (zA rfl (qM rfl rfl rfl (by omega)) (zN rfl rfl rfl ?_))))))); refine qc (qa ?_); refine ⟨?_, ?_, ?_⟩
    · skip
      omega
    · skip
      omega
    exact Sub.trans (qaE 18 3 (noL hL _) (noL hL _)) (qI (SubT.cons (zT rfl) (SubT.cons (zT rfl) (SubT.cons (zT rfl) (SubT.nil)))) (SubO.cons (qag rfl (by rw [qah hu, gdDs, gdDs, List.map_append]; rfl)) (SubO.nil)) rfl rfl (noL' (noL hL) _))
  try simp only [↓cqA, cqB] at c0
  refine qQ (qq (qq (q7 ?_))); refine qa (qd (qb (zM rfl rfl rfl (zN rfl rfl rfl (qc (qa (qm ?_)))))))
  -- leaf 0F
  change retQ _ _ _ _ _ _ _
  refine retO (O' := [(3, _)]) (.inl rfl) (qf rfl qh) (SubO.cons rfl SubO.nil) ?_ ?_ (noL' (noL hL) _) ?_
  · rfl
  · rfl
  exact ⟨rfl, by rw [List.take_of_length_le (by omega)]⟩
theorem none_iff (t : Tm) : noneB t = true ↔ t = zeroTm := by
  simp only [noneB, zeroTm, Bool.and_eq_true, decide_eq_true_eq]
  constructor
  · rintro ⟨⟨⟨h1, h2⟩, h3⟩, h4⟩
    cases t; simp only at h1 h2 h3 h4; rw [h1, h2, h3, List.eq_nil_of_length_eq_zero h4]
  · rintro rfl; simp
end Go.Proofs.YtdecgkhdbfgldaaGreat

set_option linter.unusedVariables false
set_option linter.unusedSimpArgs false
set_option maxRecDepth 8000
namespace Go.Proofs.YtdecgkhdbfgldaaGreat
open Go
theorem rGuard_ok (g : Gd) (hg : g.wf) (hr : dle 30 g.r) : PF 221 [gdA g] (bv (okG g)) := by
  have w1 := hg.2.1
  have w2 := hg.2.2
  have e3 : eqT 30 g.r zeroTm = noneB g.r := by
    rw [Bool.eq_iff_iff, eqT_iff 30 _ _ hr, none_iff]
  have key := AC_le (.cons .refl (.cons (zero_le false) .nil)) (qcz 30 g.r zeroTm hr w2 zeroTm_wf)
  rw [e3] at key
  refine qG Tryz.func221 rfl Tryz.ntmps221 (Nat.le_of_ble_eq_true rfl) fun c hL hQ hDD => (qd (qb (qz rfl rfl (by decide) (qab 1 rfl rfl rfl) rfl (zN rfl rfl rfl (qc (qa (qd ?_))))))); refine qd (qb (zA rfl (qg rfl qaS rfl) (zA rfl (qr rfl qay rfl rfl rfl rfl rfl) ?_)))
  refine qC (avs := [_, _, _]) true rfl rfl rfl (by decide) qb8 rfl rfl (Between_ok _ _ _) rfl rfl (qc (qa (qu rfl (fun c0 => ?_) (fun c0 => ?_))))
  · try simp only [↓cqA, cqB] at c0
    refine qd (qb (zA rfl (qg rfl qaO rfl) (zA rfl (qr rfl qi rfl rfl rfl rfl rfl) (qC (avs := [_]) true rfl rfl rfl (by decide) qaK rfl rfl (qc8 g.l w1) rfl rfl (zM rfl rfl rfl (qA 9 rfl (fun g9 => ?_) (fun g9 => ?_)))))))
    · try simp only [↓cqA, cqB] at g9
      refine zG rfl rfl rfl rfl (qg rfl qa1 rfl) (zG rfl rfl rfl rfl (qr rfl qi rfl rfl rfl rfl rfl) (zG rfl rfl rfl rfl (qN (avs := [_]) true rfl qaK rfl rfl (qc8 g.r w2) (fun _ => rfl) rfl) (zA rfl (qj rfl rfl rfl) (zN rfl rfl rfl (qc (qa (qm ?_))))))); refine ql (?_)
      -- leaf 0Tg9T
      refine ret0 (noL hL) (.inl rfl) (qf rfl (qh)) ?_ ?_
      · rfl
      refine ⟨qW ?_, rfl⟩
      simp_all [okG, cmpsB]
      try omega
      try (have h4 : ¬ g.kind ≤ 4 := by omega
           rcases (show g.kind = 5 ∨ g.kind = 6 by omega) with h | h <;> simp [h4, h])
    try simp only [↓cqA, cqB] at g9
    refine zS rfl rfl rfl rfl (zS rfl rfl rfl rfl (zS rfl rfl rfl rfl (zA rfl (qj rfl rfl rfl) (zN rfl rfl rfl (qc (qa (qm ?_))))))); refine ql (?_)
    -- leaf 0Tg9F
    refine ret0 (noL hL) (.inl rfl) (qf rfl (qh)) ?_ ?_
    · rfl
    refine ⟨qW ?_, rfl⟩
    simp_all [okG, cmpsB]
    try omega
    try (have h4 : ¬ g.kind ≤ 4 := by omega
         rcases (show g.kind = 5 ∨ g.kind = 6 by omega) with h | h <;> simp [h4, h])
  try simp only [↓cqA, cqB] at c0
  refine qt (qa (qd (qb (zA rfl (qg rfl qaS rfl) (zA rfl (qr rfl qay rfl rfl rfl rfl rfl) (qC (avs := [_, _, _]) true rfl rfl rfl (by decide) qb8 rfl rfl (Between_ok _ _ _) rfl rfl (zM rfl rfl rfl ?_))))))); refine qA 17 rfl (fun g17 => ?_) (fun g17 => ?_)
  · try simp only [↓cqA, cqB] at g17
    refine zG rfl rfl rfl rfl (qg rfl qaO rfl) (zG rfl rfl rfl rfl (qr rfl qi rfl rfl rfl rfl rfl) (zG rfl rfl rfl rfl (qN (avs := [_]) true rfl qaK rfl rfl (qc8 g.l w1) (fun _ => rfl) rfl) (zA rfl (qj rfl rfl rfl) (zM rfl rfl rfl (qA 22 rfl (fun g22 => ?_) (fun g22 => ?_))))))
    · try simp only [↓cqA, cqB] at g22
      refine zG rfl rfl rfl rfl (qg rfl qaO rfl) (zG rfl rfl rfl rfl (qr rfl qi rfl rfl rfl rfl rfl) (zG rfl rfl rfl rfl (qN (avs := [_]) true rfl qbm rfl rfl (rAtom_ok g.l (qao (by assumption)) w1) (fun _ => rfl) rfl) (zA rfl (qj rfl rfl rfl) (zM rfl rfl rfl (qA 27 rfl (fun g27 => ?_) (fun g27 => ?_))))))
      · try simp only [↓cqA, cqB] at g27
        refine zG rfl rfl rfl rfl (qg rfl qa1 rfl) (zG rfl rfl rfl rfl (qr rfl qi rfl rfl rfl rfl rfl) (zG rfl rfl rfl rfl (qbx rfl q6 rfl qbT rfl rfl) (zG rfl rfl rfl rfl (qN (avs := [_, _]) true rfl qaC rfl rfl (key) (fun _ => rfl) rfl) (zA rfl (qj rfl rfl rfl) ?_))))
        refine zN rfl rfl rfl (qc (qa (qm ?_)))
        -- leaf 0Fg17Tg22Tg27T
        refine ret0 (noL hL) (.inl rfl) (qf rfl (qh)) ?_ ?_
        · rfl
        refine ⟨qW ?_, rfl⟩
        simp_all [okG, cmpsB]
        try omega
        try (have h4 : ¬ g.kind ≤ 4 := by omega
             rcases (show g.kind = 5 ∨ g.kind = 6 by omega) with h | h <;> simp [h4, h])
      try simp only [↓cqA, cqB] at g27
      refine zS rfl rfl rfl rfl (zS rfl rfl rfl rfl (zS rfl rfl rfl rfl (zS rfl rfl rfl rfl (zA rfl (qj rfl rfl rfl) (zN rfl rfl rfl (qc (qa ?_))))))); refine qm ?_
      -- leaf 0Fg17Tg22Tg27F
      refine ret0 (noL hL) (.inl rfl) (qf rfl (qh)) ?_ ?_
      · rfl
      refine ⟨qW ?_, rfl⟩
      simp_all [okG, cmpsB]
      try omega
      try (have h4 : ¬ g.kind ≤ 4 := by omega
           rcases (show g.kind = 5 ∨ g.kind = 6 by omega) with h | h <;> simp [h4, h])
    try simp only [↓cqA, cqB] at g22
    refine zS rfl rfl rfl rfl (zS rfl rfl rfl rfl (zS rfl rfl rfl rfl (zA rfl (qj rfl rfl rfl) (zM rfl rfl rfl (zS rfl rfl rfl rfl ?_)))))
    refine zS rfl rfl rfl rfl (zS rfl rfl rfl rfl (zS rfl rfl rfl rfl (zA rfl (qj rfl rfl rfl) (zN rfl rfl rfl (qc (qa (qm ?_)))))))
    -- leaf 0Fg17Tg22F
    refine ret0 (noL hL) (.inl rfl) (qf rfl (qh)) ?_ ?_
    · rfl
    refine ⟨qW ?_, rfl⟩
    simp_all [okG, cmpsB]
    try omega
    try (have h4 : ¬ g.kind ≤ 4 := by omega
         rcases (show g.kind = 5 ∨ g.kind = 6 by omega) with h | h <;> simp [h4, h])
  try simp only [↓cqA, cqB] at g17
  refine zS rfl rfl rfl rfl (zS rfl rfl rfl rfl (zS rfl rfl rfl rfl (zA rfl (qj rfl rfl rfl) (zM rfl rfl rfl (zS rfl rfl rfl rfl ?_)))))
  refine zS rfl rfl rfl rfl (zS rfl rfl rfl rfl (zA rfl (qj rfl rfl rfl) (zM rfl rfl rfl (zS rfl rfl rfl rfl (zS rfl rfl rfl rfl ?_)))))
  refine zS rfl rfl rfl rfl (zS rfl rfl rfl rfl (zA rfl (qj rfl rfl rfl) (zN rfl rfl rfl (qc (qa (qm ?_))))))
  -- leaf 0Fg17F
  refine ret0 (noL hL) (.inl rfl) (qf rfl (qh)) ?_ ?_
  · rfl
  refine ⟨qW ?_, rfl⟩
  simp_all [okG, cmpsB]
  try omega
  try (have h4 : ¬ g.kind ≤ 4 := by omega
       rcases (show g.kind = 5 ∨ g.kind = 6 by omega) with h | h <;> simp [h4, h])
theorem rGuards_ok (l : List Gd) (hl : qbD l) (hw : ∀ g ∈ l, g.wf) (hr : ∀ g ∈ l, dle 30 g.r) : PF 175 [.dat false 9 (gdDs l), bv false] (bv (okGs l)) := by
  have hlen := qbU l
  simp only [qbD] at hl
  refine qG Tryz.func175 rfl Tryz.ntmps175 (Nat.le_of_ble_eq_true rfl) fun c hL hQ hDD => (qd (qb (zN rfl rfl rfl (qc (qa (qd (qd ?_))))))); refine qb (zN rfl rfl rfl (qc ?_))
  refine qa (qB (qV (5) (fun k => k ≤ l.length ∧ k ≤ 5 ∧ ∀ (j : Nat) (g : Gd), j < k → l[j]? = some g → okG g = true) (fun k => ⟨[(0, .dat false 9 (gdDs l)), (1, bv false), (5, iv (k : Int))], []⟩) (⟨by omega, by omega, fun j g hj => absurd hj (by omega)⟩) ?_ (fun k hk hp => ?_)))
  · exact qI (SubT.cons (zT rfl) (SubT.cons (zT rfl) (SubT.cons (zT rfl) (SubT.nil)))) (SubO.nil) rfl rfl (noL' (noL hL) _)
  refine qd (qd (qb (zM rfl rfl rfl (zM rfl rfl rfl (zA rfl (qy rfl qac rfl) (zA rfl (qn rfl rfl rfl rfl) (zM rfl rfl rfl ?_))))))); refine qA 10 rfl (fun g10 => ?_) (fun g10 => ?_)
  · try simp only [↓cqA, cqB] at g10
    refine zG rfl rfl rfl rfl (qk (.inl rfl) rfl) (zG rfl rfl rfl rfl (qn rfl rfl rfl rfl) (zA rfl (qj rfl rfl rfl) (qc (qa (qu rfl (fun c0 => ?_) (fun c0 => ?_))))))
    · try simp only [↓cqA, cqB] at c0
      obtain ⟨u, hu⟩ := qK (l := l) (k := k) (by omega)
      have hum := List.mem_of_getElem? hu
      refine qt (qa (qd (qB (qd (qb (zM rfl rfl rfl (zM rfl rfl rfl ?_))))))); refine zA rfl (qo rfl qac rfl rfl (by omega) (gdDs_get hu)) (zA rfl (qD rfl qaz rfl rfl) ?_)
      refine qC (avs := [_]) true rfl rfl rfl (by decide) en_almagestref4_Guard rfl rfl (rGuard_ok u (hw u hum) (hr u hum)) rfl rfl (zA rfl (qU rfl rfl) (zM rfl rfl rfl (qA 22 rfl (fun g22 => ?_) (fun g22 => ?_))))
      · try simp only [↓cqA, cqB] at g22
        refine zS rfl rfl rfl rfl (zS rfl rfl rfl rfl (qaG rfl rfl rfl (by decide) rfl (by decide) (qaG rfl rfl rfl (by decide) rfl (by decide) (qaG rfl rfl rfl (by decide) rfl (by decide) (qaG rfl rfl rfl (by decide) rfl (by decide) ?_)))))
        refine qaG rfl rfl rfl (by decide) rfl (by decide) (qaG rfl rfl rfl (by decide) rfl (by decide) (zS rfl rfl rfl rfl (zA rfl (qj rfl rfl rfl) (qc (qa (qaj rfl (qd ?_))))))); refine qb (zN rfl rfl rfl (qc (qa (qm (qL (ql (ql (qL (ql (?_))))))))))
        -- leaf g10T0Tg22T
        refine ret0 (noL hL) (.inl rfl) (qf rfl (qh)) ?_ ?_
        · rfl
        refine ⟨qW ?_, rfl⟩
        first
          | (have : l.all okG = true := List.all_eq_true.2 fun x hx => by
               obtain ⟨j, hj⟩ := List.getElem?_of_mem hx
               exact hp.2.2 j x (by have := (List.getElem?_eq_some_iff.1 hj).1; omega) hj
             rw [okGs, this, hlen]
             by_cases h4 : l.length ≤ 4
             · rw [decide_eq_true h4, decide_eq_true (by omega)]; rfl
             · rw [decide_eq_false h4, decide_eq_false (by omega)]; rfl)
          | (have hb : okG u = false := by assumption
             have : l.all okG = false := List.all_eq_false.2 ⟨u, hum, by rw [hb]; exact Bool.noConfusion⟩
             rw [okGs, this, Bool.and_false])
          | (rw [okGs, decide_eq_false (by omega), decide_eq_false (by omega)]; rfl)
          | trace_state
      try simp only [↓cqA, cqB] at g22
      refine zG rfl rfl rfl rfl (qk (.inl rfl) rfl) (zG rfl rfl rfl rfl (qk (.inl rfl) rfl) (qA 24 rfl (fun g24 => ?_) (fun g24 => ?_)))
      · try simp only [↓cqA, cqB] at g24
        all_goals (exact absurd g24 (by simp))
      try simp only [↓cqA, cqB] at g24
      refine zS rfl rfl rfl rfl (zS rfl rfl rfl rfl (zS rfl rfl rfl rfl (zS rfl rfl rfl rfl (zS rfl rfl rfl rfl (zS rfl rfl rfl rfl ?_)))))
      refine zG rfl rfl rfl rfl (qj rfl rfl rfl) (zA rfl (qj rfl rfl rfl) (qc (qa (qas rfl (qt (qP (qa ?_))))))); refine qb (zM rfl rfl rfl (zA rfl (qM rfl rfl rfl (by omega)) (zN rfl rfl rfl (qc (qa ?_))))); refine ⟨?_, ?_, ?_⟩
      · skip
        omega
      · skip
        refine ⟨by omega, by omega, fun j y hj hy => ?_⟩
        by_cases hjk : j < k
        · exact hp.2.2 j y hjk hy
        · rw [show j = k by omega, hu] at hy; cases hy; assumption
      exact qI (SubT.cons (zT rfl) (SubT.cons (zT rfl) (SubT.cons (zT rfl) (SubT.nil)))) (SubO.nil) rfl rfl (noL' (noL hL) _)
    try simp only [↓cqA, cqB] at c0
    refine qQ (qq (qq (q7 ?_))); refine qa (qd (qb (zM rfl rfl rfl (zA rfl (qy rfl qac rfl) (zA rfl (qn rfl rfl rfl rfl) (zN rfl rfl rfl (qc ?_))))))); refine qa (qm ?_)
    -- leaf g10T0F
    refine ret0 (noL hL) (.inl rfl) (qf rfl (qh)) ?_ ?_
    · rfl
    refine ⟨qW ?_, rfl⟩
    first
      | (have : l.all okG = true := List.all_eq_true.2 fun x hx => by
           obtain ⟨j, hj⟩ := List.getElem?_of_mem hx
           exact hp.2.2 j x (by have := (List.getElem?_eq_some_iff.1 hj).1; omega) hj
         rw [okGs, this, hlen]
         by_cases h4 : l.length ≤ 4
         · rw [decide_eq_true h4, decide_eq_true (by omega)]; rfl
         · rw [decide_eq_false h4, decide_eq_false (by omega)]; rfl)
      | (have hb : okG u = false := by assumption
         have : l.all okG = false := List.all_eq_false.2 ⟨u, hum, by rw [hb]; exact Bool.noConfusion⟩
         rw [okGs, this, Bool.and_false])
      | (rw [okGs, decide_eq_false (by omega), decide_eq_false (by omega)]; rfl)
      | trace_state
  try simp only [↓cqA, cqB] at g10
  refine zS rfl rfl rfl rfl (zS rfl rfl rfl rfl (zA rfl (qj rfl rfl rfl) (qc (qa (qas rfl (qQ (qq (qq (q7 ?_))))))))); refine qa (qd (qb (zM rfl rfl rfl (zA rfl (qy rfl qac rfl) ?_))))
  refine zA rfl (qn rfl rfl rfl rfl) (zN rfl rfl rfl (qc (qa (qm ?_))))
  -- leaf g10F
  refine ret0 (noL hL) (.inl rfl) (qf rfl (qh)) ?_ ?_
  · rfl
  refine ⟨qW ?_, rfl⟩
  first
    | (have : l.all okG = true := List.all_eq_true.2 fun x hx => by
         obtain ⟨j, hj⟩ := List.getElem?_of_mem hx
         exact hp.2.2 j x (by have := (List.getElem?_eq_some_iff.1 hj).1; omega) hj
       rw [okGs, this, hlen]
       by_cases h4 : l.length ≤ 4
       · rw [decide_eq_true h4, decide_eq_true (by omega)]; rfl
       · rw [decide_eq_false h4, decide_eq_false (by omega)]; rfl)
    | (have hb : okG u = false := by assumption
       have : l.all okG = false := List.all_eq_false.2 ⟨u, hum, by rw [hb]; exact Bool.noConfusion⟩
       rw [okGs, this, Bool.and_false])
    | (rw [okGs, decide_eq_false (by omega), decide_eq_false (by omega)]; rfl)
    | trace_state
end Go.Proofs.YtdecgkhdbfgldaaGreat

set_option linter.unusedVariables false
set_option linter.unusedSimpArgs false
set_option maxRecDepth 8000
namespace Go.Proofs.YtdecgkhdbfgldaaGreat
open Go
theorem spv_int {k : IntKind} {a : Int} {v : Value} (h : SpV (.int k a) v) : ∃ b, v = .int k b := by
  rcases h with rfl | ⟨_, _, _, h, rfl⟩ | ⟨_, _, h, _⟩ | ⟨_, _, _, h, _⟩
  · exact ⟨a, rfl⟩
  · cases h; exact ⟨_, rfl⟩
  · cases h
  · cases h
theorem spv_str {a : ByteArray} {v : Value} (h : SpV (.string a) v) : ∃ b, v = .string b := by
  rcases h with rfl | ⟨_, _, _, h, _⟩ | ⟨_, _, h, rfl⟩ | ⟨_, _, _, h, _⟩
  · exact ⟨a, rfl⟩
  · cases h
  · cases h; exact ⟨_, rfl⟩
  · cases h
def dlb : Nat → Tm → Prop
  | 0, _ => False
  | d + 1, t => t.args.length ≤ 140737488351232 ∧ ∀ u, u ∈ t.args → dlb d u
theorem dlb_of : ∀ (d : Nat) (t : Tm), dle d t → t.wf → dlb d t
  | 0, t, h, _ => h
  | d + 1, t, h, hw => ⟨by have := hw.2.2.2.1; omega, fun u hu => dlb_of d u (h u hu) (Tm.wfs_mem hw.2.2.2.2 hu)⟩
mutual
theorem shTm : ∀ (t : Tm) (ds' : List D), ShCs (tmD0 t) ds' → ∃ t', ds' = tmD t' ∧ ∀ d, dlb d t → dlb d t'
  | ⟨k, nm, n, xs⟩, ds', h => by
    simp only [tmD0, ShCs, ShD] at h
    obtain ⟨_, _, rfl, ⟨v1, rfl, h1⟩, _, _, rfl, ⟨v2, rfl, h2⟩, _, _, rfl, ⟨v3, rfl, h3⟩, _, _, rfl, ⟨es', rfl, h4⟩, rfl⟩ := h
    obtain ⟨k', rfl⟩ := spv_int h1
    obtain ⟨s', rfl⟩ := spv_str h2
    obtain ⟨n', rfl⟩ := spv_int h3
    rcases h4 with rfl | h4
    · refine ⟨⟨k', s', n', []⟩, rfl, fun d hd => ?_⟩
      cases d with
      | zero => exact hd
      | succ d => exact ⟨Nat.zero_le _, fun u hu => by cases hu⟩
    · obtain ⟨xs', rfl, hl', hd'⟩ := shTms xs es' h4
      refine ⟨⟨k', s', n', xs'⟩, rfl, fun d hd => ?_⟩
      cases d with
      | zero => exact hd
      | succ d => exact ⟨by rw [hl']; exact hd.1, hd' d hd.2⟩
theorem shTms : ∀ (xs : List Tm) (es' : List (List D)), ShEs (tmDs xs) es' → ∃ xs', es' = tmDs xs' ∧ xs'.length = xs.length ∧ ∀ d, (∀ u ∈ xs, dlb d u) → ∀ u ∈ xs', dlb d u
  | [], es', h => by simp only [tmDs, ShEs] at h; subst h; exact ⟨[], rfl, rfl, fun d _ u hu => by cases hu⟩
  | t :: ts, es', h => by
    simp only [tmDs, ShEs] at h
    obtain ⟨e', es'', rfl, h1, h2⟩ := h
    obtain ⟨t', rfl, h3⟩ := shTm t e' h1
    obtain ⟨ts', rfl, h4, h5⟩ := shTms ts es'' h2
    refine ⟨t' :: ts', by simp only [tmDs, tmD0_eq], by simp [h4], fun d hd u hu => ?_⟩
    rcases List.mem_cons.1 hu with rfl | hu
    · exact h3 d (hd t (by simp))
    · exact h5 d (fun u hu => hd u (by simp [hu])) u hu
end
theorem shTmD {t : Tm} {ds' : List D} (h : ShCs (tmD t) ds') : ∃ t', ds' = tmD t' ∧ ∀ d, dlb d t → dlb d t' := shTm t ds' (by rw [tmD0_eq]; exact h)
theorem shBds : ∀ (l : List Bd) (es' : List (List D)), ShEs (bdDs l) es' → ∃ l', es' = bdDs l' ∧ l'.length = l.length ∧ ∀ d, (∀ b ∈ l, dlb d b.t) → ∀ b ∈ l', dlb d b.t
  | [], es', h => by simp only [bdDs, List.map_nil, ShEs] at h; subst h; exact ⟨[], rfl, rfl, fun d _ u hu => by cases hu⟩
  | b :: l, es', h => by
    simp only [bdDs, List.map_cons, bdD, ShEs, ShCs, ShD] at h
    obtain ⟨e', es'', rfl, ⟨_, _, rfl, ⟨v, rfl, h0⟩, h1⟩, h2⟩ := h
    obtain ⟨s', rfl⟩ := spv_str h0
    obtain ⟨t', rfl, h3⟩ := shTmD h1
    obtain ⟨l', rfl, h4, h5⟩ := shBds l es'' h2
    refine ⟨⟨s', t'⟩ :: l', rfl, by simp [h4], fun d hd u hu => ?_⟩
    rcases List.mem_cons.1 hu with rfl | hu
    · exact h3 d (hd b (by simp))
    · exact h5 d (fun u hu => hd u (by simp [hu])) u hu
theorem sh_tmbox {t : Tm} {o' : Ob} (h : ShOb (.box (lift true (tmD t))) o') : ∃ t', o' = .box (lift true (tmD t')) ∧ t'.args.length = t.args.length ∧ ∀ d, dlb d t → dlb d t' := by
  simp only [ShOb, tmD, lift, List.map_cons, List.map_nil, D.av, ShL, ShV, if_true] at h
  obtain ⟨cs', rfl, _, _, rfl, rfl, _, _, rfl, rfl, _, _, rfl, rfl, _, _, rfl, ⟨es', rfl, h⟩, rfl⟩ := h
  obtain ⟨xs', rfl, h1, h2⟩ := shTms t.args es' h
  refine ⟨⟨t.kind, t.name, t.n, xs'⟩, rfl, h1, fun d hd => ?_⟩
  cases d with
  | zero => exact hd
  | succ d => exact ⟨by rw [h1]; exact hd.1, h2 d hd.2⟩
theorem shO_one {l : Nat} {o : Ob} {O' : List (Nat × Ob)} (h : ShO [(l, o)] O') : ∃ o', O' = [(l, o')] ∧ ShOb o o' := by
  simp only [ShO] at h
  obtain ⟨o', O'', rfl, h, rfl⟩ := h
  exact ⟨o', rfl, h⟩
theorem shL_false : ∀ (ds : List D) (cs' : List AV), ShL (lift false ds) cs' → cs' = lift false ds
  | [], cs', h => by simpa [lift, ShL] using h
  | d :: ds, cs', h => by
    simp only [lift, List.map_cons, ShL] at h
    obtain ⟨v', vs', rfl, h1, h2⟩ := h
    have ih := shL_false ds vs' h2
    have : v' = D.av false d := by
      cases d with
      | imm v => simpa [D.av, ShV] using h1
      | sl k es =>
        simp only [D.av, ShV] at h1
        obtain ⟨es', rfl, h1⟩ := h1
        have : es' = es := by simpa using h1
        rw [this]; rfl
    rw [this, ih]; rfl
theorem shO_box {l : Nat} {ds : List D} {O' : List (Nat × Ob)} (h : ShO [(l, .box (lift false ds))] O') : O' = [(l, .box (lift false ds))] := by
  obtain ⟨o', rfl, h2⟩ := shO_one h
  simp only [ShOb] at h2
  obtain ⟨cs', rfl, h3⟩ := h2
  rw [shL_false ds cs' h3]
theorem spoilTerm_ok : ∀ (d : Nat) (t : Tm), dlb d t → SPC Tryz.prog 97 (tmA true t)
  | 0, t, h => h.elim
  | d + 1, t, h => by
    have ih := fun u hu => spoilTerm_ok d u hu
    have hlt := h.1
    refine SPC_intro Tryz.func97 rfl Tryz.ntmps97 (Nat.le_of_ble_eq_true rfl) rfl fun c hL hQW hDD => (qd (qb (qz rfl rfl (by decide) (qab 1 rfl rfl rfl) rfl (qc (qa (qd (qb ?_))))))); refine zN rfl rfl rfl (qc ?_)
    refine qa (qB (awp_whileE (α := Tm) (t.args.length) (fun k u => dlb (d + 1) u ∧ u.args.length = t.args.length ∧ k ≤ t.args.length) (fun k u => ⟨[(1, .ptr 1 0), (2, iv (k : Int))], [(1, .box (lift true (tmD u)))]⟩) (t) (⟨h, rfl, by omega⟩) ?_ (fun k u hk hp => ?_)))
    · exact qI (SubT.cons (zT rfl) (SubT.cons (zT rfl) (SubT.nil))) (SubO.cons (qag rfl (by rfl)) (SubO.nil)) rfl rfl (noL' (noL hL) _)
    have hlu := qaa u.args
    refine qd (qd (qb (zM rfl rfl rfl (zA rfl (qg rfl qJ rfl) (zA rfl (qr rfl qF rfl rfl rfl rfl rfl) (zA rfl (qy rfl qv rfl) (zA rfl (qn rfl rfl rfl rfl) ?_))))))); refine qc (qa (qu rfl (fun c0 => ?_) (fun c0 => ?_)))
    · try simp only [↓cqA, cqB] at c0
      obtain ⟨x, hx⟩ := qK (l := u.args) (k := k) (by omega)
      have hxd : dlb d x := hp.1.2 x (List.mem_of_getElem? hx)
      refine qt (qa (qd (qB (qd (qb (zA rfl (qg rfl qJ rfl) (zA rfl (qr rfl qF rfl rfl rfl rfl rfl) ?_))))))); refine zM rfl rfl rfl (zA rfl (qo rfl qv rfl rfl (by omega) (qax hx)) (zA rfl (qD rfl qi rfl rfl) ?_))
      refine qar (qI (T1 := [(14, tmA true x), (1, .ptr 1 0), (2, iv (k : Int))]) (O1 := [(1, .box (lift true (tmD u)))]) (SubT.cons rfl (SubT.cons rfl (SubT.cons rfl SubT.nil))) (SubO.cons rfl SubO.nil) rfl rfl (noL' (noL hL) _)) (awps_spoil rfl rfl rfl (by decide) en_almagestlaw0_Term rfl rfl rfl rfl (ih x hxd) hQW (fun T' O' hT hO => ?_))
      simp only [ShT, ShV] at hT
      obtain ⟨_, _, rfl, _, _, _, rfl, rfl, _, _, rfl, rfl, rfl⟩ := hT
      obtain ⟨ob1, rfl, hO2⟩ := shO_one hO
      obtain ⟨u1, rfl, hu1, hud1⟩ := sh_tmbox hO2
      have hlu1 := qaa u1.args
      obtain ⟨x1, hx1⟩ := qK (l := u1.args) (k := k) (by omega)
      refine qc (qa (qb (zA rfl (qg rfl qJ rfl) (zA rfl (qr rfl qF rfl rfl rfl rfl rfl) (zM rfl rfl rfl (zA rfl (qbx rfl q6 rfl qbT rfl rfl) (zA rfl (qo rfl qv rfl rfl (by omega) (qax hx1)) ?_)))))))
      refine qar (qI (T1 := [(20, .elp true (tmD x1)), (19, .agg [iv (-9), sv ⟨#[]⟩, iv 0, .imm (.slice none 0 0)]), (1, .ptr 1 0), (2, iv (k : Int))]) (O1 := [(1, .box (lift true (tmD u1)))]) (SubT.cons rfl (SubT.cons rfl (SubT.cons rfl (SubT.cons rfl SubT.nil)))) (SubO.cons rfl SubO.nil) rfl rfl (noL' (noL hL) _)) (awps_spoilstore rfl rfl rfl qi rfl rfl rfl rfl (by decide) rfl hQW (fun T' O' hT hO => ?_))
      simp only [ShT, ShV] at hT
      obtain ⟨_, _, rfl, _, _, _, rfl, _, _, _, rfl, rfl, _, _, rfl, rfl, rfl⟩ := hT
      obtain ⟨ob1, rfl, hO2⟩ := shO_one hO
      obtain ⟨u2, rfl, hu2, hud2⟩ := sh_tmbox hO2
      refine qc (qP (qa (qb (zM rfl rfl rfl (zA rfl (qM rfl rfl rfl (by omega)) (zN rfl rfl rfl (qc ?_))))))); refine qa ?_; refine ⟨?_, u2, ?_, ?_⟩
      · skip
        omega
      · skip
        exact ⟨hud2 _ (hud1 _ hp.1), by omega, by omega⟩
      exact qI (SubT.cons (zT rfl) (SubT.cons (zT rfl) (SubT.nil))) (SubO.cons (qag rfl (by rfl)) (SubO.nil)) rfl rfl (noL' (noL hL) _)
    try simp only [↓cqA, cqB] at c0
    refine qQ (qq (qq (q7 ?_)))
    -- leaf 0F
    refine ret0 (noL hL) (.inr rfl) (qh) ?_ ?_
    · rfl
    exact ⟨rfl, rfl⟩
theorem spoilBinds_ok (l : List Bd) (hd : ∀ b ∈ l, dlb 5 b.t) (hl : l.length ≤ 1000000) : SPC Tryz.prog 29 (.dat true 5 (bdDs l)) := by
  refine SPC_intro Tryz.func29 rfl Tryz.ntmps29 (Nat.le_of_ble_eq_true rfl) rfl fun c hL hQW hDD => (qd (qb (zN rfl rfl rfl (qc (qa (qB (awp_whileE (α := List Bd) (l.length) (fun k u => (∀ b ∈ u, dlb 5 b.t) ∧ u.length = l.length ∧ k ≤ l.length) (fun k u => ⟨[(0, .dat true 5 (bdDs u)), (2, iv (k : Int))], []⟩) (l) (⟨hd, rfl, by omega⟩) ?_ (fun k u hk hp => ?_))))))))
  · exact qI (SubT.cons (zT rfl) (SubT.cons (zT rfl) (SubT.nil))) (SubO.nil) rfl rfl (noL' (noL hL) _)
  have hlu := qak u
  refine qd (qd (qb (zM rfl rfl rfl (zM rfl rfl rfl (zA rfl (qy rfl qp rfl) (zA rfl (qn rfl rfl rfl rfl) (qc ?_))))))); refine qa (qu rfl (fun c0 => ?_) (fun c0 => ?_))
  · try simp only [↓cqA, cqB] at c0
    obtain ⟨x, hx⟩ := qK (l := u) (k := k) (by omega)
    have hxd : dlb 5 x.t := hp.1 x (List.mem_of_getElem? hx)
    refine qt (qa (qd (qB (qd (qb (zM rfl rfl rfl (zM rfl rfl rfl ?_))))))); refine zA rfl (qo rfl qp rfl rfl (by omega) (qaI hx)) (zA rfl (qZ rfl qan rfl) (zA rfl (qD rfl qi rfl rfl) ?_))
    refine qar (qI (T1 := [(13, tmA true x.t), (0, .dat true 5 (bdDs u)), (2, iv (k : Int))]) (O1 := []) (SubT.cons rfl (SubT.cons rfl (SubT.cons rfl SubT.nil))) SubO.nil rfl rfl (noL' (noL hL) _)) (awps_spoil rfl rfl rfl (by decide) en_almagestlaw0_Term rfl rfl rfl rfl (spoilTerm_ok 5 x.t hxd) hQW (fun T' O' hT hO => ?_))
    simp only [ShT, ShV, if_true] at hT
    obtain ⟨_, _, rfl, _, _, _, rfl, ⟨es, rfl, hes⟩, _, _, rfl, rfl, rfl⟩ := hT
    simp only [ShO] at hO
    subst hO
    obtain ⟨u1, rfl, hu1, hud1⟩ := shBds u es hes
    have hlu1 := qak u1
    obtain ⟨x1, hx1⟩ := qK (l := u1) (k := k) (by omega)
    refine qc (qa (qb (zM rfl rfl rfl (zM rfl rfl rfl (zA rfl (qbx rfl qaD rfl qcU rfl rfl) (zA rfl (qo rfl qp rfl rfl (by omega) (qaI hx1)) ?_))))))
    refine qar (qI (T1 := [(18, .elp true (bdD x1)), (17, .agg [sv ⟨#[115, 112, 111, 105, 108, 116]⟩, iv 0, sv ⟨#[]⟩, iv 0, .imm (.slice none 0 0)]), (0, .dat true 5 (bdDs u1)), (2, iv (k : Int))]) (O1 := []) (SubT.cons rfl (SubT.cons rfl (SubT.cons rfl (SubT.cons rfl SubT.nil)))) SubO.nil rfl rfl (noL' (noL hL) _)) (awps_spoilstore rfl rfl rfl qav rfl rfl rfl rfl (by decide) rfl hQW (fun T' O' hT hO => ?_))
    simp only [ShT, ShV, if_true] at hT
    obtain ⟨_, _, rfl, _, _, _, rfl, _, _, _, rfl, ⟨es2, rfl, hes2⟩, _, _, rfl, rfl, rfl⟩ := hT
    simp only [ShO] at hO
    subst hO
    obtain ⟨u2, rfl, hu2, hud2⟩ := shBds u1 es2 hes2
    refine qc (qP (qa (qb (zM rfl rfl rfl (zA rfl (qM rfl rfl rfl (by omega)) (zN rfl rfl rfl (qc ?_))))))); refine qa ?_; refine ⟨?_, u2, ?_, ?_⟩
    · skip
      omega
    · skip
      exact ⟨hud2 _ (hud1 _ hp.1), by omega, by omega⟩
    exact qI (SubT.cons (zT rfl) (SubT.cons (zT rfl) (SubT.nil))) (SubO.nil) rfl rfl (noL' (noL hL) _)
  try simp only [↓cqA, cqB] at c0
  refine qQ (qq (qq (q7 ?_)))
  -- leaf 0F
  refine ret0 (noL hL) (.inr rfl) (qh) ?_ ?_
  · rfl
  exact ⟨rfl, rfl⟩
end Go.Proofs.YtdecgkhdbfgldaaGreat

set_option linter.unusedVariables false
set_option linter.unusedSimpArgs false
set_option maxRecDepth 8000
namespace Go.Proofs.YtdecgkhdbfgldaaGreat
open Go
theorem ground_fix {l : List Bd} (hm : ∀ b ∈ l, mayT b.t = true) : groundL l = fixB l := by
  have e1 : groundL l = true ↔ ∀ y, y ∉ noteL 5 (l.map Bd.t) := by
    rw [groundL, List.isEmpty_iff]
    exact List.eq_nil_iff_forall_not_mem
  have e2 : ∀ b ∈ l, (qbh b.t = true ↔ ∀ y, ¬ b.t.occ y) := fun b hb => by
    rw [qbh, List.isEmpty_iff, List.eq_nil_iff_forall_not_mem]
    constructor
    · intro h y hy; exact h y ((note_occ y 5 b.t (qao (hm b hb))).2 hy)
    · intro h y hy; exact h y ((note_occ y 5 b.t (qao (hm b hb))).1 hy)
  have hd : ∀ t ∈ l.map Bd.t, dle 5 t := fun t ht => by
    obtain ⟨b, hb, rfl⟩ := List.mem_map.1 ht; exact qao (hm b hb)
  rw [Bool.eq_iff_iff, e1, fixB, List.all_eq_true]
  constructor
  · intro h b hb
    exact (e2 b hb).2 fun y hy => h y ((noteL5 hd y).2 ⟨b.t, List.mem_map.2 ⟨b, hb, rfl⟩, hy⟩)
  · intro h y hy
    obtain ⟨t, ht, ho⟩ := (noteL5 hd y).1 hy
    obtain ⟨b, hb, rfl⟩ := List.mem_map.1 ht
    exact (e2 b hb).1 (h b hb) y ho
end Go.Proofs.YtdecgkhdbfgldaaGreat
