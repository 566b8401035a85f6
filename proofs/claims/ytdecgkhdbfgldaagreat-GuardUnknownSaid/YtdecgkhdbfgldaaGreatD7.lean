/- Part 7 of the proof: Fe. -/
import Derived.Test.YtdecgkhdbfgldaaGreatD6
set_option linter.unusedVariables false
set_option linter.unusedSimpArgs false
set_option maxRecDepth 8000
namespace Go.Proofs.YtdecgkhdbfgldaaGreat
open Go
theorem Between_ok (x a b : Int) : PF 157 [iv x, iv a, iv b] (bv (decide (a ≤ x ∧ x ≤ b))) := by
  refine qG Tryz.func157 rfl Tryz.ntmps157 (Nat.le_of_ble_eq_true rfl) fun c hL hQ hDD => (qd (qb (zN rfl rfl rfl (qc (qa (qd (qb ?_))))))); refine zM rfl rfl rfl ?_
  refine zM rfl rfl rfl (zA rfl (qn rfl rfl rfl rfl) (zM rfl rfl rfl (qA 10 rfl (fun g10 => ?_) (fun g10 => ?_))))
  · try simp only [↓cqA, cqB] at g10
    refine zG rfl rfl rfl rfl (qk (.inl rfl) rfl) (zG rfl rfl rfl rfl (qk (.inl rfl) rfl) (zG rfl rfl rfl rfl (qn rfl rfl rfl rfl) (zA rfl (qj rfl rfl rfl) (zN rfl rfl rfl (qc (qa (qm ?_)))))))
    -- leaf g10T
    refine ret0 (noL hL) (.inl rfl) (qf rfl (qh)) ?_ ?_
    · rfl
    refine ⟨qW ?_, rfl⟩
    rw [Bool.eq_iff_iff]; simp; try omega
  try simp only [↓cqA, cqB] at g10
  refine zS rfl rfl rfl rfl (zS rfl rfl rfl rfl (zS rfl rfl rfl rfl (zA rfl (qj rfl rfl rfl) (zN rfl rfl rfl (qc (qa (qm ?_)))))))
  -- leaf g10F
  refine ret0 (noL hL) (.inl rfl) (qf rfl (qh)) ?_ ?_
  · rfl
  refine ⟨qW ?_, rfl⟩
  rw [Bool.eq_iff_iff]; simp; try omega
def tailB (s : ByteArray) : Bool := (List.range s.size).all fun i => qa7 (qb1 s i)
theorem rtail_ok (s : ByteArray) (hs : s.size ≤ 140737488351232) : PF 202 [sv s] (bv (tailB s)) := by
  refine qG Tryz.func202 rfl Tryz.ntmps202 (Nat.le_of_ble_eq_true rfl) fun c hL hQ hDD => (qd (qb (zN rfl rfl rfl (qc (qa (qd (qd ?_))))))); refine qb (zN rfl rfl rfl (qc ?_))
  refine qa (qB (qV (s.size) (fun k => k ≤ s.size ∧ ∀ j, j < k → qa7 (qb1 s j) = true) (fun k => ⟨[(0, sv s), (3, iv (k : Int))], []⟩) (⟨by omega, fun j hj => absurd hj (by omega)⟩) ?_ (fun k hk hp => ?_)))
  · exact qI (SubT.cons (zT rfl) (SubT.cons (zT rfl) (SubT.nil))) (SubO.nil) rfl rfl (noL' (noL hL) _)
  refine qd (qd (qb (zM rfl rfl rfl (zM rfl rfl rfl (zA rfl (qb5 rfl qaY rfl) (zA rfl (qn rfl rfl rfl rfl) (qc ?_))))))); refine qa (qu rfl (fun c0 => ?_) (fun c0 => ?_))
  · try simp only [↓cqA, cqB] at c0
    refine qt (qa (qd (qB (qd (qb (zM rfl rfl rfl (zM rfl rfl rfl ?_))))))); refine zA rfl (qc4 rfl qaY rfl rfl (by omega) (by omega)) ?_
    refine zN rfl rfl rfl (qc (qa (qd (qb (zM rfl rfl rfl (zA rfl (qn rfl rfl rfl rfl) (zM rfl rfl rfl ?_))))))); refine qA 16 rfl (fun g16 => ?_) (fun g16 => ?_)
    · try simp only [↓cqA, cqB] at g16
      refine zG rfl rfl rfl rfl (qk (.inl rfl) rfl) (zG rfl rfl rfl rfl (qn rfl rfl rfl rfl) (zA rfl (qj rfl rfl rfl) (zM rfl rfl rfl (qA 20 rfl (fun g20 => ?_) (fun g20 => ?_)))))
      · try simp only [↓cqA, cqB] at g20
        refine zS rfl rfl rfl rfl (zS rfl rfl rfl rfl (zS rfl rfl rfl rfl (qaG rfl rfl rfl (by decide) rfl (by decide) (qaG rfl rfl rfl (by decide) rfl (by decide) (zS rfl rfl rfl rfl ?_)))))
        refine zA rfl (qj rfl rfl rfl) (zM rfl rfl rfl (zS rfl rfl rfl rfl (zS rfl rfl rfl rfl (zS rfl rfl rfl rfl (qaG rfl rfl rfl (by decide) rfl (by decide) ?_)))))
        refine qaG rfl rfl rfl (by decide) rfl (by decide) (zS rfl rfl rfl rfl (zA rfl (qj rfl rfl rfl) (zM rfl rfl rfl (zS rfl rfl rfl rfl (zS rfl rfl rfl rfl ?_)))))
        refine zA rfl (qj rfl rfl rfl) (zA rfl (qU rfl rfl) (qc (qa (qas rfl (qt (qP (qa ?_))))))); refine qb (zM rfl rfl rfl (zA rfl (qM rfl rfl rfl (by omega)) (zN rfl rfl rfl (qc ?_))))
        have hin : qa7 (qb1 s k) = true := by
          simp [qa7, qbR, qbS, digB]; omega
        refine qa ?_; refine ⟨?_, ?_, ?_⟩
        · skip
          omega
        · skip
          refine ⟨by omega, fun j hj => ?_⟩
          by_cases hjk : j < k
          · exact hp.2 j hjk
          · rw [show j = k by omega]; exact hin
        exact qI (SubT.cons (zT rfl) (SubT.cons (zT rfl) (SubT.nil))) (SubO.nil) rfl rfl (noL' (noL hL) _)
      try simp only [↓cqA, cqB] at g20
      refine zG rfl rfl rfl rfl (qk (.inl rfl) rfl) (zG rfl rfl rfl rfl (qn rfl rfl rfl rfl) (zG rfl rfl rfl rfl (qk (.inl rfl) rfl) (qA 23 rfl (fun g23 => ?_) (fun g23 => ?_))))
      · try simp only [↓cqA, cqB] at g23
        refine zG rfl rfl rfl rfl (qk (.inl rfl) rfl) (zG rfl rfl rfl rfl (qn rfl rfl rfl rfl) (zG rfl rfl rfl rfl (qj rfl rfl rfl) (zA rfl (qj rfl rfl rfl) (zM rfl rfl rfl (qA 28 rfl (fun g28 => ?_) (fun g28 => ?_))))))
        · try simp only [↓cqA, cqB] at g28
          refine zS rfl rfl rfl rfl (zS rfl rfl rfl rfl (zS rfl rfl rfl rfl (qaG rfl rfl rfl (by decide) rfl (by decide) (qaG rfl rfl rfl (by decide) rfl (by decide) (zS rfl rfl rfl rfl ?_)))))
          refine zA rfl (qj rfl rfl rfl) (zM rfl rfl rfl (zS rfl rfl rfl rfl (zS rfl rfl rfl rfl (zA rfl (qj rfl rfl rfl) (zA rfl (qU rfl rfl) ?_)))))
          refine qc (qa (qas rfl (qt (qP (qa (qb (zM rfl rfl rfl ?_))))))); refine zA rfl (qM rfl rfl rfl (by omega)) (zN rfl rfl rfl (qc ?_))
          have hin : qa7 (qb1 s k) = true := by
            simp [qa7, qbR, qbS, digB]; omega
          refine qa ?_; refine ⟨?_, ?_, ?_⟩
          · skip
            omega
          · skip
            refine ⟨by omega, fun j hj => ?_⟩
            by_cases hjk : j < k
            · exact hp.2 j hjk
            · rw [show j = k by omega]; exact hin
          exact qI (SubT.cons (zT rfl) (SubT.cons (zT rfl) (SubT.nil))) (SubO.nil) rfl rfl (noL' (noL hL) _)
        try simp only [↓cqA, cqB] at g28
        refine zG rfl rfl rfl rfl (qk (.inl rfl) rfl) (zG rfl rfl rfl rfl (qn rfl rfl rfl rfl) (zG rfl rfl rfl rfl (qk (.inl rfl) rfl) (qA 31 rfl (fun g31 => ?_) (fun g31 => ?_))))
        · try simp only [↓cqA, cqB] at g31
          refine zG rfl rfl rfl rfl (qk (.inl rfl) rfl) (zG rfl rfl rfl rfl (qn rfl rfl rfl rfl) (zG rfl rfl rfl rfl (qj rfl rfl rfl) (zA rfl (qj rfl rfl rfl) (zM rfl rfl rfl (qA 36 rfl (fun g36 => ?_) (fun g36 => ?_))))))
          · try simp only [↓cqA, cqB] at g36
            refine zS rfl rfl rfl rfl (zS rfl rfl rfl rfl (zA rfl (qj rfl rfl rfl) (zA rfl (qU rfl rfl) (qc (qa (qas rfl (qt ?_))))))); refine qP (qa ?_)
            refine qb (zM rfl rfl rfl (zA rfl (qM rfl rfl rfl (by omega)) (zN rfl rfl rfl (qc ?_))))
            have hin : qa7 (qb1 s k) = true := by
              simp [qa7, qbR, qbS, digB]; omega
            refine qa ?_; refine ⟨?_, ?_, ?_⟩
            · skip
              omega
            · skip
              refine ⟨by omega, fun j hj => ?_⟩
              by_cases hjk : j < k
              · exact hp.2 j hjk
              · rw [show j = k by omega]; exact hin
            exact qI (SubT.cons (zT rfl) (SubT.cons (zT rfl) (SubT.nil))) (SubO.nil) rfl rfl (noL' (noL hL) _)
          try simp only [↓cqA, cqB] at g36
          refine zG rfl rfl rfl rfl (qk (.inl rfl) rfl) (zG rfl rfl rfl rfl (qn rfl rfl rfl rfl) (zA rfl (qj rfl rfl rfl) (zA rfl (qU rfl rfl) (qc (qa (qu rfl (fun c1 => ?_) (fun c1 => ?_)))))))
          · try simp only [↓cqA, cqB] at c1
            refine qd (qb (zN rfl rfl rfl (qc (qa (qm (qL (ql (ql (qL (ql (?_)))))))))))
            -- leaf 0Tg16Tg20Fg23Tg28Fg31Tg36F1T
            refine ret0 (noL hL) (.inl rfl) (qf rfl (qh)) ?_ ?_
            · rfl
            refine ⟨qW ?_, rfl⟩
            symm; rw [tailB, List.all_eq_false]
            exact ⟨k, by simp; omega, by simp [qa7, qbR, qbS, digB]; omega⟩
          try simp only [↓cqA, cqB] at c1
          refine qt (qP (qa (qb (zM rfl rfl rfl (zA rfl (qM rfl rfl rfl (by omega)) (zN rfl rfl rfl (qc ?_)))))))
          have hin : qa7 (qb1 s k) = true := by
            simp [qa7, qbR, qbS, digB]; omega
          refine qa ?_; refine ⟨?_, ?_, ?_⟩
          · skip
            omega
          · skip
            refine ⟨by omega, fun j hj => ?_⟩
            by_cases hjk : j < k
            · exact hp.2 j hjk
            · rw [show j = k by omega]; exact hin
          exact qI (SubT.cons (zT rfl) (SubT.cons (zT rfl) (SubT.nil))) (SubO.nil) rfl rfl (noL' (noL hL) _)
        try simp only [↓cqA, cqB] at g31
        refine zS rfl rfl rfl rfl (zS rfl rfl rfl rfl (zG rfl rfl rfl rfl (qj rfl rfl rfl) (zA rfl (qj rfl rfl rfl) (zM rfl rfl rfl ?_))))
        refine zG rfl rfl rfl rfl (qk (.inl rfl) rfl) (zG rfl rfl rfl rfl (qn rfl rfl rfl rfl) (zA rfl (qj rfl rfl rfl) (zA rfl (qU rfl rfl) (qc (qa (qu rfl (fun c1 => ?_) (fun c1 => ?_)))))))
        · try simp only [↓cqA, cqB] at c1
          refine qd (qb (zN rfl rfl rfl (qc (qa (qm (qL (ql (ql (qL (ql (?_)))))))))))
          -- leaf 0Tg16Tg20Fg23Tg28Fg31F1T
          refine ret0 (noL hL) (.inl rfl) (qf rfl (qh)) ?_ ?_
          · rfl
          refine ⟨qW ?_, rfl⟩
          symm; rw [tailB, List.all_eq_false]
          exact ⟨k, by simp; omega, by simp [qa7, qbR, qbS, digB]; omega⟩
        try simp only [↓cqA, cqB] at c1
        refine qt (qP (qa (qb (zM rfl rfl rfl (zA rfl (qM rfl rfl rfl (by omega)) (zN rfl rfl rfl (qc ?_)))))))
        have hin : qa7 (qb1 s k) = true := by
          simp [qa7, qbR, qbS, digB]; omega
        refine qa ?_; refine ⟨?_, ?_, ?_⟩
        · skip
          omega
        · skip
          refine ⟨by omega, fun j hj => ?_⟩
          by_cases hjk : j < k
          · exact hp.2 j hjk
          · rw [show j = k by omega]; exact hin
        exact qI (SubT.cons (zT rfl) (SubT.cons (zT rfl) (SubT.nil))) (SubO.nil) rfl rfl (noL' (noL hL) _)
      try simp only [↓cqA, cqB] at g23
      refine zS rfl rfl rfl rfl (zS rfl rfl rfl rfl (zG rfl rfl rfl rfl (qj rfl rfl rfl) (zA rfl (qj rfl rfl rfl) (zM rfl rfl rfl ?_))))
      refine zG rfl rfl rfl rfl (qk (.inl rfl) rfl) (zG rfl rfl rfl rfl (qn rfl rfl rfl rfl) (zG rfl rfl rfl rfl (qk (.inl rfl) rfl) (qA 31 rfl (fun g31 => ?_) (fun g31 => ?_))))
      · try simp only [↓cqA, cqB] at g31
        refine zG rfl rfl rfl rfl (qk (.inl rfl) rfl) (zG rfl rfl rfl rfl (qn rfl rfl rfl rfl) (zG rfl rfl rfl rfl (qj rfl rfl rfl) (zA rfl (qj rfl rfl rfl) (zM rfl rfl rfl (qA 36 rfl (fun g36 => ?_) (fun g36 => ?_))))))
        · try simp only [↓cqA, cqB] at g36
          refine zS rfl rfl rfl rfl (zS rfl rfl rfl rfl (zA rfl (qj rfl rfl rfl) (zA rfl (qU rfl rfl) (qc (qa (qas rfl (qt ?_))))))); refine qP (qa ?_)
          refine qb (zM rfl rfl rfl (zA rfl (qM rfl rfl rfl (by omega)) (zN rfl rfl rfl (qc ?_))))
          have hin : qa7 (qb1 s k) = true := by
            simp [qa7, qbR, qbS, digB]; omega
          refine qa ?_; refine ⟨?_, ?_, ?_⟩
          · skip
            omega
          · skip
            refine ⟨by omega, fun j hj => ?_⟩
            by_cases hjk : j < k
            · exact hp.2 j hjk
            · rw [show j = k by omega]; exact hin
          exact qI (SubT.cons (zT rfl) (SubT.cons (zT rfl) (SubT.nil))) (SubO.nil) rfl rfl (noL' (noL hL) _)
        try simp only [↓cqA, cqB] at g36
        refine zG rfl rfl rfl rfl (qk (.inl rfl) rfl) (zG rfl rfl rfl rfl (qn rfl rfl rfl rfl) (zA rfl (qj rfl rfl rfl) (zA rfl (qU rfl rfl) (qc (qa (qu rfl (fun c1 => ?_) (fun c1 => ?_)))))))
        · try simp only [↓cqA, cqB] at c1
          refine qd (qb (zN rfl rfl rfl (qc (qa (qm (qL (ql (ql (qL (ql (?_)))))))))))
          -- leaf 0Tg16Tg20Fg23Fg31Tg36F1T
          refine ret0 (noL hL) (.inl rfl) (qf rfl (qh)) ?_ ?_
          · rfl
          refine ⟨qW ?_, rfl⟩
          symm; rw [tailB, List.all_eq_false]
          exact ⟨k, by simp; omega, by simp [qa7, qbR, qbS, digB]; omega⟩
        try simp only [↓cqA, cqB] at c1
        refine qt (qP (qa (qb (zM rfl rfl rfl (zA rfl (qM rfl rfl rfl (by omega)) (zN rfl rfl rfl (qc ?_)))))))
        have hin : qa7 (qb1 s k) = true := by
          simp [qa7, qbR, qbS, digB]; omega
        refine qa ?_; refine ⟨?_, ?_, ?_⟩
        · skip
          omega
        · skip
          refine ⟨by omega, fun j hj => ?_⟩
          by_cases hjk : j < k
          · exact hp.2 j hjk
          · rw [show j = k by omega]; exact hin
        exact qI (SubT.cons (zT rfl) (SubT.cons (zT rfl) (SubT.nil))) (SubO.nil) rfl rfl (noL' (noL hL) _)
      try simp only [↓cqA, cqB] at g31
      refine zS rfl rfl rfl rfl (zS rfl rfl rfl rfl (zG rfl rfl rfl rfl (qj rfl rfl rfl) (zA rfl (qj rfl rfl rfl) (zM rfl rfl rfl ?_))))
      refine zG rfl rfl rfl rfl (qk (.inl rfl) rfl) (zG rfl rfl rfl rfl (qn rfl rfl rfl rfl) (zA rfl (qj rfl rfl rfl) (zA rfl (qU rfl rfl) (qc (qa (qu rfl (fun c1 => ?_) (fun c1 => ?_)))))))
      · try simp only [↓cqA, cqB] at c1
        refine qd (qb (zN rfl rfl rfl (qc (qa (qm (qL (ql (ql (qL (ql (?_)))))))))))
        -- leaf 0Tg16Tg20Fg23Fg31F1T
        refine ret0 (noL hL) (.inl rfl) (qf rfl (qh)) ?_ ?_
        · rfl
        refine ⟨qW ?_, rfl⟩
        symm; rw [tailB, List.all_eq_false]
        exact ⟨k, by simp; omega, by simp [qa7, qbR, qbS, digB]; omega⟩
      try simp only [↓cqA, cqB] at c1
      refine qt (qP (qa (qb (zM rfl rfl rfl (zA rfl (qM rfl rfl rfl (by omega)) (zN rfl rfl rfl (qc ?_)))))))
      have hin : qa7 (qb1 s k) = true := by
        simp [qa7, qbR, qbS, digB]; omega
      refine qa ?_; refine ⟨?_, ?_, ?_⟩
      · skip
        omega
      · skip
        refine ⟨by omega, fun j hj => ?_⟩
        by_cases hjk : j < k
        · exact hp.2 j hjk
        · rw [show j = k by omega]; exact hin
      exact qI (SubT.cons (zT rfl) (SubT.cons (zT rfl) (SubT.nil))) (SubO.nil) rfl rfl (noL' (noL hL) _)
    try simp only [↓cqA, cqB] at g16
    refine zS rfl rfl rfl rfl (zS rfl rfl rfl rfl (zA rfl (qj rfl rfl rfl) (zM rfl rfl rfl (zG rfl rfl rfl rfl (qk (.inl rfl) rfl) (zG rfl rfl rfl rfl (qn rfl rfl rfl rfl) (zG rfl rfl rfl rfl (qk (.inl rfl) rfl) (qA 23 rfl (fun g23 => ?_) (fun g23 => ?_))))))))
    · try simp only [↓cqA, cqB] at g23
      refine zG rfl rfl rfl rfl (qk (.inl rfl) rfl) (zG rfl rfl rfl rfl (qn rfl rfl rfl rfl) (zG rfl rfl rfl rfl (qj rfl rfl rfl) (zA rfl (qj rfl rfl rfl) (zM rfl rfl rfl (qA 28 rfl (fun g28 => ?_) (fun g28 => ?_))))))
      · try simp only [↓cqA, cqB] at g28
        refine zS rfl rfl rfl rfl (zS rfl rfl rfl rfl (zS rfl rfl rfl rfl (qaG rfl rfl rfl (by decide) rfl (by decide) (qaG rfl rfl rfl (by decide) rfl (by decide) (zS rfl rfl rfl rfl ?_)))))
        refine zA rfl (qj rfl rfl rfl) (zM rfl rfl rfl (zS rfl rfl rfl rfl (zS rfl rfl rfl rfl (zA rfl (qj rfl rfl rfl) (zA rfl (qU rfl rfl) ?_)))))
        refine qc (qa (qas rfl (qt (qP (qa (qb (zM rfl rfl rfl ?_))))))); refine zA rfl (qM rfl rfl rfl (by omega)) (zN rfl rfl rfl (qc ?_))
        have hin : qa7 (qb1 s k) = true := by
          simp [qa7, qbR, qbS, digB]; omega
        refine qa ?_; refine ⟨?_, ?_, ?_⟩
        · skip
          omega
        · skip
          refine ⟨by omega, fun j hj => ?_⟩
          by_cases hjk : j < k
          · exact hp.2 j hjk
          · rw [show j = k by omega]; exact hin
        exact qI (SubT.cons (zT rfl) (SubT.cons (zT rfl) (SubT.nil))) (SubO.nil) rfl rfl (noL' (noL hL) _)
      try simp only [↓cqA, cqB] at g28
      refine zG rfl rfl rfl rfl (qk (.inl rfl) rfl) (zG rfl rfl rfl rfl (qn rfl rfl rfl rfl) (zG rfl rfl rfl rfl (qk (.inl rfl) rfl) (qA 31 rfl (fun g31 => ?_) (fun g31 => ?_))))
      · try simp only [↓cqA, cqB] at g31
        refine zG rfl rfl rfl rfl (qk (.inl rfl) rfl) (zG rfl rfl rfl rfl (qn rfl rfl rfl rfl) (zG rfl rfl rfl rfl (qj rfl rfl rfl) (zA rfl (qj rfl rfl rfl) (zM rfl rfl rfl (qA 36 rfl (fun g36 => ?_) (fun g36 => ?_))))))
        · try simp only [↓cqA, cqB] at g36
          refine zS rfl rfl rfl rfl (zS rfl rfl rfl rfl (zA rfl (qj rfl rfl rfl) (zA rfl (qU rfl rfl) (qc (qa (qas rfl (qt ?_))))))); refine qP (qa ?_)
          refine qb (zM rfl rfl rfl (zA rfl (qM rfl rfl rfl (by omega)) (zN rfl rfl rfl (qc ?_))))
          have hin : qa7 (qb1 s k) = true := by
            simp [qa7, qbR, qbS, digB]; omega
          refine qa ?_; refine ⟨?_, ?_, ?_⟩
          · skip
            omega
          · skip
            refine ⟨by omega, fun j hj => ?_⟩
            by_cases hjk : j < k
            · exact hp.2 j hjk
            · rw [show j = k by omega]; exact hin
          exact qI (SubT.cons (zT rfl) (SubT.cons (zT rfl) (SubT.nil))) (SubO.nil) rfl rfl (noL' (noL hL) _)
        try simp only [↓cqA, cqB] at g36
        refine zG rfl rfl rfl rfl (qk (.inl rfl) rfl) (zG rfl rfl rfl rfl (qn rfl rfl rfl rfl) (zA rfl (qj rfl rfl rfl) (zA rfl (qU rfl rfl) (qc (qa (qu rfl (fun c1 => ?_) (fun c1 => ?_)))))))
        · try simp only [↓cqA, cqB] at c1
          refine qd (qb (zN rfl rfl rfl (qc (qa (qm (qL (ql (ql (qL (ql (?_)))))))))))
          -- leaf 0Tg16Fg23Tg28Fg31Tg36F1T
          refine ret0 (noL hL) (.inl rfl) (qf rfl (qh)) ?_ ?_
          · rfl
          refine ⟨qW ?_, rfl⟩
          symm; rw [tailB, List.all_eq_false]
          exact ⟨k, by simp; omega, by simp [qa7, qbR, qbS, digB]; omega⟩
        try simp only [↓cqA, cqB] at c1
        refine qt (qP (qa (qb (zM rfl rfl rfl (zA rfl (qM rfl rfl rfl (by omega)) (zN rfl rfl rfl (qc ?_)))))))
        have hin : qa7 (qb1 s k) = true := by
          simp [qa7, qbR, qbS, digB]; omega
        refine qa ?_; refine ⟨?_, ?_, ?_⟩
        · skip
          omega
        · skip
          refine ⟨by omega, fun j hj => ?_⟩
          by_cases hjk : j < k
          · exact hp.2 j hjk
          · rw [show j = k by omega]; exact hin
        exact qI (SubT.cons (zT rfl) (SubT.cons (zT rfl) (SubT.nil))) (SubO.nil) rfl rfl (noL' (noL hL) _)
      try simp only [↓cqA, cqB] at g31
      refine zS rfl rfl rfl rfl (zS rfl rfl rfl rfl (zG rfl rfl rfl rfl (qj rfl rfl rfl) (zA rfl (qj rfl rfl rfl) (zM rfl rfl rfl ?_))))
      refine zG rfl rfl rfl rfl (qk (.inl rfl) rfl) (zG rfl rfl rfl rfl (qn rfl rfl rfl rfl) (zA rfl (qj rfl rfl rfl) (zA rfl (qU rfl rfl) (qc (qa (qu rfl (fun c1 => ?_) (fun c1 => ?_)))))))
      · try simp only [↓cqA, cqB] at c1
        refine qd (qb (zN rfl rfl rfl (qc (qa (qm (qL (ql (ql (qL (ql (?_)))))))))))
        -- leaf 0Tg16Fg23Tg28Fg31F1T
        refine ret0 (noL hL) (.inl rfl) (qf rfl (qh)) ?_ ?_
        · rfl
        refine ⟨qW ?_, rfl⟩
        symm; rw [tailB, List.all_eq_false]
        exact ⟨k, by simp; omega, by simp [qa7, qbR, qbS, digB]; omega⟩
      try simp only [↓cqA, cqB] at c1
      refine qt (qP (qa (qb (zM rfl rfl rfl (zA rfl (qM rfl rfl rfl (by omega)) (zN rfl rfl rfl (qc ?_)))))))
      have hin : qa7 (qb1 s k) = true := by
        simp [qa7, qbR, qbS, digB]; omega
      refine qa ?_; refine ⟨?_, ?_, ?_⟩
      · skip
        omega
      · skip
        refine ⟨by omega, fun j hj => ?_⟩
        by_cases hjk : j < k
        · exact hp.2 j hjk
        · rw [show j = k by omega]; exact hin
      exact qI (SubT.cons (zT rfl) (SubT.cons (zT rfl) (SubT.nil))) (SubO.nil) rfl rfl (noL' (noL hL) _)
    try simp only [↓cqA, cqB] at g23
    refine zS rfl rfl rfl rfl (zS rfl rfl rfl rfl (zG rfl rfl rfl rfl (qj rfl rfl rfl) (zA rfl (qj rfl rfl rfl) (zM rfl rfl rfl ?_))))
    refine zG rfl rfl rfl rfl (qk (.inl rfl) rfl) (zG rfl rfl rfl rfl (qn rfl rfl rfl rfl) (zG rfl rfl rfl rfl (qk (.inl rfl) rfl) (qA 31 rfl (fun g31 => ?_) (fun g31 => ?_))))
    · try simp only [↓cqA, cqB] at g31
      refine zG rfl rfl rfl rfl (qk (.inl rfl) rfl) (zG rfl rfl rfl rfl (qn rfl rfl rfl rfl) (zG rfl rfl rfl rfl (qj rfl rfl rfl) (zA rfl (qj rfl rfl rfl) (zM rfl rfl rfl (qA 36 rfl (fun g36 => ?_) (fun g36 => ?_))))))
      · try simp only [↓cqA, cqB] at g36
        refine zS rfl rfl rfl rfl (zS rfl rfl rfl rfl (zA rfl (qj rfl rfl rfl) (zA rfl (qU rfl rfl) (qc (qa (qas rfl (qt ?_))))))); refine qP (qa ?_)
        refine qb (zM rfl rfl rfl (zA rfl (qM rfl rfl rfl (by omega)) (zN rfl rfl rfl (qc ?_))))
        have hin : qa7 (qb1 s k) = true := by
          simp [qa7, qbR, qbS, digB]; omega
        refine qa ?_; refine ⟨?_, ?_, ?_⟩
        · skip
          omega
        · skip
          refine ⟨by omega, fun j hj => ?_⟩
          by_cases hjk : j < k
          · exact hp.2 j hjk
          · rw [show j = k by omega]; exact hin
        exact qI (SubT.cons (zT rfl) (SubT.cons (zT rfl) (SubT.nil))) (SubO.nil) rfl rfl (noL' (noL hL) _)
      try simp only [↓cqA, cqB] at g36
      refine zG rfl rfl rfl rfl (qk (.inl rfl) rfl) (zG rfl rfl rfl rfl (qn rfl rfl rfl rfl) (zA rfl (qj rfl rfl rfl) (zA rfl (qU rfl rfl) (qc (qa (qu rfl (fun c1 => ?_) (fun c1 => ?_)))))))
      · try simp only [↓cqA, cqB] at c1
        refine qd (qb (zN rfl rfl rfl (qc (qa (qm (qL (ql (ql (qL (ql (?_)))))))))))
        -- leaf 0Tg16Fg23Fg31Tg36F1T
        refine ret0 (noL hL) (.inl rfl) (qf rfl (qh)) ?_ ?_
        · rfl
        refine ⟨qW ?_, rfl⟩
        symm; rw [tailB, List.all_eq_false]
        exact ⟨k, by simp; omega, by simp [qa7, qbR, qbS, digB]; omega⟩
      try simp only [↓cqA, cqB] at c1
      refine qt (qP (qa (qb (zM rfl rfl rfl (zA rfl (qM rfl rfl rfl (by omega)) (zN rfl rfl rfl (qc ?_)))))))
      have hin : qa7 (qb1 s k) = true := by
        simp [qa7, qbR, qbS, digB]; omega
      refine qa ?_; refine ⟨?_, ?_, ?_⟩
      · skip
        omega
      · skip
        refine ⟨by omega, fun j hj => ?_⟩
        by_cases hjk : j < k
        · exact hp.2 j hjk
        · rw [show j = k by omega]; exact hin
      exact qI (SubT.cons (zT rfl) (SubT.cons (zT rfl) (SubT.nil))) (SubO.nil) rfl rfl (noL' (noL hL) _)
    try simp only [↓cqA, cqB] at g31
    refine zS rfl rfl rfl rfl (zS rfl rfl rfl rfl (zG rfl rfl rfl rfl (qj rfl rfl rfl) (zA rfl (qj rfl rfl rfl) (zM rfl rfl rfl ?_))))
    refine zG rfl rfl rfl rfl (qk (.inl rfl) rfl) (zG rfl rfl rfl rfl (qn rfl rfl rfl rfl) (zA rfl (qj rfl rfl rfl) (zA rfl (qU rfl rfl) (qc (qa (qu rfl (fun c1 => ?_) (fun c1 => ?_)))))))
    · try simp only [↓cqA, cqB] at c1
      refine qd (qb (zN rfl rfl rfl (qc (qa (qm (qL (ql (ql (qL (ql (?_)))))))))))
      -- leaf 0Tg16Fg23Fg31F1T
      refine ret0 (noL hL) (.inl rfl) (qf rfl (qh)) ?_ ?_
      · rfl
      refine ⟨qW ?_, rfl⟩
      symm; rw [tailB, List.all_eq_false]
      exact ⟨k, by simp; omega, by simp [qa7, qbR, qbS, digB]; omega⟩
    try simp only [↓cqA, cqB] at c1
    refine qt (qP (qa (qb (zM rfl rfl rfl (zA rfl (qM rfl rfl rfl (by omega)) (zN rfl rfl rfl (qc ?_)))))))
    have hin : qa7 (qb1 s k) = true := by
      simp [qa7, qbR, qbS, digB]; omega
    refine qa ?_; refine ⟨?_, ?_, ?_⟩
    · skip
      omega
    · skip
      refine ⟨by omega, fun j hj => ?_⟩
      by_cases hjk : j < k
      · exact hp.2 j hjk
      · rw [show j = k by omega]; exact hin
    exact qI (SubT.cons (zT rfl) (SubT.cons (zT rfl) (SubT.nil))) (SubO.nil) rfl rfl (noL' (noL hL) _)
  try simp only [↓cqA, cqB] at c0
  refine qQ (qq (qq (q7 ?_))); refine qa (qd (qb (zN rfl rfl rfl (qc (qa (qm ?_))))))
  -- leaf 0F
  refine ret0 (noL hL) (.inl rfl) (qf rfl (qh)) ?_ ?_
  · rfl
  refine ⟨qW ?_, rfl⟩
  symm; rw [tailB, List.all_eq_true]
  intro j hj
  exact hp.2 j (by simp at hj; omega)
def rangeB (a b x : Int) : Bool := decide (a ≤ x ∧ x ≤ b)
theorem rword_ok (s : ByteArray) (a b : Int) : PF 140 [sv s, uv a, uv b] (bv (wordB (rangeB a b) s)) := by
  have hb : ∀ p : Int → Bool, wordB p s = (decide (s.size ≠ 0) && decide (s.size ≤ 16) && p (qb1 s 0) && tailB s) := fun p => rfl
  refine qG Tryz.func140 rfl Tryz.ntmps140 (Nat.le_of_ble_eq_true rfl) fun c hL hQ hDD => (qd (qb (zN rfl rfl rfl (qc (qa (qd (qd ?_))))))); refine qb (zM rfl rfl rfl ?_)
  refine zA rfl (qb5 rfl qaY rfl) (zA rfl (qn rfl rfl rfl rfl) (zM rfl rfl rfl (qA 10 rfl (fun g10 => ?_) (fun g10 => ?_))))
  · try simp only [↓cqA, cqB] at g10
    refine zS rfl rfl rfl rfl (zS rfl rfl rfl rfl (zS rfl rfl rfl rfl (zA rfl (qj rfl rfl rfl) (zM rfl rfl rfl (zS rfl rfl rfl rfl ?_)))))
    refine zS rfl rfl rfl rfl (zS rfl rfl rfl rfl (zS rfl rfl rfl rfl (zA rfl (qj rfl rfl rfl) (zM rfl rfl rfl (zS rfl rfl rfl rfl ?_)))))
    refine zS rfl rfl rfl rfl (zS rfl rfl rfl rfl (zS rfl rfl rfl rfl (zA rfl (qj rfl rfl rfl) (qc (qa (qaj rfl (qd ?_))))))); refine qb (zN rfl rfl rfl (qc (qa (qm (ql (?_))))))
    -- leaf g10T
    refine ret0 (noL hL) (.inl rfl) (qf rfl (qh)) ?_ ?_
    · rfl
    refine ⟨qW ?_, rfl⟩
    symm; rw [hb]; simp only [Bool.and_eq_false_iff, decide_eq_false_iff_not, rangeB]; omega
  try simp only [↓cqA, cqB] at g10
  refine zG rfl rfl rfl rfl (qk (.inl rfl) rfl) (zG rfl rfl rfl rfl (qb5 rfl qaY rfl) (zG rfl rfl rfl rfl (qn rfl rfl rfl rfl) (zA rfl (qj rfl rfl rfl) (zM rfl rfl rfl (qA 15 rfl (fun g15 => ?_) (fun g15 => ?_))))))
  · try simp only [↓cqA, cqB] at g15
    refine zS rfl rfl rfl rfl (zS rfl rfl rfl rfl (zS rfl rfl rfl rfl (zS rfl rfl rfl rfl (zA rfl (qj rfl rfl rfl) (zM rfl rfl rfl ?_)))))
    refine zS rfl rfl rfl rfl (zS rfl rfl rfl rfl (zS rfl rfl rfl rfl (zS rfl rfl rfl rfl (zA rfl (qj rfl rfl rfl) (qc (qa (qaj rfl ?_))))))); refine qd (qb (zN rfl rfl rfl (qc (qa (qm (ql (?_)))))))
    -- leaf g10Fg15T
    refine ret0 (noL hL) (.inl rfl) (qf rfl (qh)) ?_ ?_
    · rfl
    refine ⟨qW ?_, rfl⟩
    symm; rw [hb]; simp only [Bool.and_eq_false_iff, decide_eq_false_iff_not, rangeB]; omega
  try simp only [↓cqA, cqB] at g15
  refine zG rfl rfl rfl rfl (qk (.inl rfl) rfl) (zG rfl rfl rfl rfl (qc4 rfl qaY rfl rfl (by decide) (by omega)) (zG rfl rfl rfl rfl (qk (.inl rfl) rfl) (zG rfl rfl rfl rfl (qn rfl rfl rfl rfl) (zA rfl (qj rfl rfl rfl) (zM rfl rfl rfl (qA 21 rfl (fun g21 => ?_) (fun g21 => ?_)))))))
  · try simp only [↓cqA, cqB] at g21
    refine zS rfl rfl rfl rfl (zS rfl rfl rfl rfl (zS rfl rfl rfl rfl (zS rfl rfl rfl rfl (zA rfl (qj rfl rfl rfl) (qc (qa (qaj rfl ?_))))))); refine qd (qb (zN rfl rfl rfl (qc (qa (qm (ql (?_)))))))
    -- leaf g10Fg15Fg21T
    refine ret0 (noL hL) (.inl rfl) (qf rfl (qh)) ?_ ?_
    · rfl
    refine ⟨qW ?_, rfl⟩
    symm; rw [hb]; simp only [Bool.and_eq_false_iff, decide_eq_false_iff_not, rangeB]; omega
  try simp only [↓cqA, cqB] at g21
  refine zG rfl rfl rfl rfl (qk (.inl rfl) rfl) (zG rfl rfl rfl rfl (qc4 rfl qaY rfl rfl (by decide) (by omega)) (zG rfl rfl rfl rfl (qk (.inl rfl) rfl) (zG rfl rfl rfl rfl (qn rfl rfl rfl rfl) (zA rfl (qj rfl rfl rfl) (qc (qa (qu rfl (fun c0 => ?_) (fun c0 => ?_))))))))
  · try simp only [↓cqA, cqB] at c0
    refine qd (qb (zN rfl rfl rfl (qc (qa (qm (ql (?_)))))))
    -- leaf g10Fg15Fg21F0T
    refine ret0 (noL hL) (.inl rfl) (qf rfl (qh)) ?_ ?_
    · rfl
    refine ⟨qW ?_, rfl⟩
    symm; rw [hb]; simp only [Bool.and_eq_false_iff, decide_eq_false_iff_not, rangeB]; omega
  try simp only [↓cqA, cqB] at c0
  refine qt (qa (qd (qb (zM rfl rfl rfl (qC (avs := [_]) true rfl rfl rfl (by decide) en_almagestref1_tail rfl rfl (rtail_ok _ (by omega)) rfl rfl (zN rfl rfl rfl (qc ?_))))))); refine qa (qm ?_)
  -- leaf g10Fg15Fg21F0F
  refine ret0 (noL hL) (.inl rfl) (qf rfl (qh)) ?_ ?_
  · rfl
  refine ⟨qW ?_, rfl⟩
  have e1 : decide (s.size ≠ 0) = true := decide_eq_true (by omega)
  have e2 : decide (s.size ≤ 16) = true := decide_eq_true (by omega)
  have e3 : rangeB a b (qb1 s 0) = true := decide_eq_true (by omega)
  rw [hb, e1, e2, e3]; simp
theorem rName_ok (s : ByteArray) : PF 158 [sv s] (bv (nameB s)) := by
  refine qG Tryz.func158 rfl Tryz.ntmps158 (Nat.le_of_ble_eq_true rfl) fun c hL hQ hDD => (qd (qb (zN rfl rfl rfl (qc (qa (qd (qb ?_))))))); refine zM rfl rfl rfl ?_
  refine qC (avs := [_, _, _]) true rfl rfl rfl (by decide) en_almagestref1_word rfl rfl (rword_ok _ _ _) rfl rfl (zN rfl rfl rfl (qc (qa (qm ?_))))
  -- leaf 
  refine ret0 (noL hL) (.inl rfl) (qf rfl (qh)) ?_ ?_
  · rfl
  exact ⟨rfl, rfl⟩
theorem rVar_ok (s : ByteArray) : PF 82 [sv s] (bv (varB s)) := by
  refine qG Tryz.func82 rfl Tryz.ntmps82 (Nat.le_of_ble_eq_true rfl) fun c hL hQ hDD => (qd (qb (zN rfl rfl rfl (qc (qa (qd (qb ?_))))))); refine zM rfl rfl rfl ?_
  refine qC (avs := [_, _, _]) true rfl rfl rfl (by decide) en_almagestref1_word rfl rfl (rword_ok _ _ _) rfl rfl (zN rfl rfl rfl (qc (qa (qm ?_))))
  -- leaf 
  refine ret0 (noL hL) (.inl rfl) (qf rfl (qh)) ?_ ?_
  · rfl
  exact ⟨rfl, rfl⟩
def qce (f : Tm → Int) : Int → List Tm → Int
  | n, [] => n
  | n, a :: l => if n ≤ 24 then qce f (n + f a) l else n
def qbf : Nat → Tm → Int
  | 0, _ => 25
  | d + 1, t =>
    if t.kind = 1 then (if varB t.name = true ∧ t.n = 0 ∧ t.args.length = 0 then 1 else 25)
    else if t.kind = 2 then (if t.name.size = 0 ∧ (-1073741824 ≤ t.n ∧ t.n ≤ 1073741824) ∧ t.args.length = 0 then 1 else 25)
    else if t.kind = 3 then (if nameB t.name = false ∨ t.n ≠ 0 ∨ 4 < t.args.length ∨ (0 < t.args.length ∧ d = 0) then 25 else qce (qbf d) 1 t.args)
    else 25
theorem sizeL_ge (f : Tm → Int) (h : ∀ t, 0 ≤ f t) : ∀ (n : Int) (l : List Tm), n ≤ qce f n l
  | n, [] => by simp [qce]
  | n, a :: l => by
    simp only [qce]
    split
    · have := sizeL_ge f h (n + f a) l
      have := h a; omega
    · omega
theorem sizeL_stop (f : Tm → Int) (n : Int) (l : List Tm) (h : ¬ n ≤ 24) : qce f n l = n := by
  cases l with
  | nil => rfl
  | cons a l => simp [qce, h]
theorem sizeL_le (f : Tm → Int) (B : Int) (hB : 0 ≤ B) : ∀ (n : Int) (l : List Tm), (∀ t, f t ≤ B) → n ≤ 24 + B → qce f n l ≤ 24 + B
  | n, [], _, h0 => h0
  | n, a :: l, h, h0 => by
    simp only [qce]
    split
    · exact sizeL_le f B hB _ l h (by have := h a; omega)
    · exact h0
theorem sizeS_ge : ∀ (d : Nat) (t : Tm), 1 ≤ qbf d t
  | 0, _ => by simp [qbf]
  | d + 1, t => by
    simp only [qbf]
    split
    · split <;> omega
    split
    · split <;> omega
    split
    · split
      · omega
      · have := sizeL_ge (qbf d) (fun t => by have := sizeS_ge d t; omega) 1 t.args; omega
    · omega
theorem sizeS_le : ∀ (d : Nat) (t : Tm), qbf d t ≤ 25 + 24 * d
  | 0, _ => by simp [qbf]
  | d + 1, t => by
    simp only [qbf]
    push_cast
    split
    · split <;> omega
    split
    · split <;> omega
    split
    · split
      · omega
      · have := sizeL_le (qbf d) (25 + 24 * d) (by omega) 1 t.args (fun t => sizeS_le d t) (by omega); omega
    · omega
theorem sizeL_take (f : Tm → Int) (n : Int) (l : List Tm) (k : Nat) (hk : k ≤ l.length) (h : ∀ j, j < k → qce f n (l.take j) ≤ 24) : qce f n l = qce f (qce f n (l.take k)) (l.drop k) := by
  induction k generalizing n l with
  | zero => simp [qce]
  | succ k ih =>
    cases l with
    | nil => simp at hk
    | cons a l =>
      have h0 : n ≤ 24 := by have := h 0 (by omega); simpa [qce] using this
      simp only [List.take_succ_cons, List.drop_succ_cons, qce, if_pos h0]
      refine ih _ l (by simpa using hk) fun j hj => ?_
      have := h (j + 1) (by omega)
      simpa [qce, h0] using this
theorem sizeL_snoc (f : Tm → Int) (n : Int) (l : List Tm) (a : Tm) (h : ∀ j, j ≤ l.length → qce f n (l.take j) ≤ 24) : qce f n (l ++ [a]) = qce f n l + f a := by
  have h1 := sizeL_take f n (l ++ [a]) l.length (by simp) (fun j hj => by
    have := h j (by omega)
    rwa [List.take_append_of_le_length (by omega)])
  have h2 := h l.length (Nat.le_refl _)
  simp only [List.take_length] at h2
  simp only [List.take_left, List.drop_left] at h1
  rw [h1]
  simp [qce, h2]
def SizeC (d : Nat) : Prop := ∀ (e : Int), e = d → ∀ (t : Tm), t.wf → PF 94 [tmA false t, iv e] (iv (qbf d t))
theorem rsize_ok : ∀ d : Nat, 1 ≤ d → d ≤ 5 → SizeC d := by
  intro d
  induction d with
  | zero => intro h; omega
  | succ d ih =>
    intro _ hd e he t ht
    have hlen := qaa t.args
    have hal := ht.2.2.2.1
    refine qG Tryz.func94 rfl Tryz.ntmps94 (Nat.le_of_ble_eq_true rfl) fun c hL hQ hDD => (qd (qb (qz rfl rfl (by decide) (qab 2 rfl rfl rfl) rfl (zN rfl rfl rfl (qc (qa (qd ?_))))))); refine qd (qb (zA rfl (qg rfl q9 rfl) (zA rfl (qr rfl qay rfl rfl rfl rfl rfl) ?_)))
    refine qc (qa (qB (qd (qb (zA rfl (qn rfl rfl rfl rfl) (zN rfl rfl rfl (qc ?_))))))); refine qa (qu rfl (fun c0 => ?_) (fun c0 => ?_))
    · try simp only [↓cqA, cqB] at c0
      refine qd (qb (zA rfl (qg rfl qad rfl) (zA rfl (qr rfl qT rfl rfl rfl rfl rfl) (qC (avs := [_]) true rfl rfl rfl (by decide) qbL rfl rfl (rVar_ok _) rfl rfl (zM rfl rfl rfl (qA 14 rfl (fun g14 => ?_) (fun g14 => ?_)))))))
      · try simp only [↓cqA, cqB] at g14
        refine zG rfl rfl rfl rfl (qg rfl qaB rfl) (zG rfl rfl rfl rfl (qr rfl qay rfl rfl rfl rfl rfl) (zG rfl rfl rfl rfl (qn rfl rfl rfl rfl) (zA rfl (qj rfl rfl rfl) (zM rfl rfl rfl (qA 19 rfl (fun g19 => ?_) (fun g19 => ?_))))))
        · try simp only [↓cqA, cqB] at g19
          refine zG rfl rfl rfl rfl (qg rfl qJ rfl) (zG rfl rfl rfl rfl (qr rfl qF rfl rfl rfl rfl rfl) (zG rfl rfl rfl rfl (qy rfl qv rfl) (zG rfl rfl rfl rfl (qn rfl rfl rfl rfl) (zA rfl (qj rfl rfl rfl) (qc (qa (qu rfl (fun c1 => ?_) (fun c1 => ?_))))))))
          · try simp only [↓cqA, cqB] at c1
            refine qd (qb (zN rfl rfl rfl (qc (qa (qm (qL (ql (?_))))))))
            -- leaf 0Tg14Tg19T1T
            refine ret0 (noL hL) (.inl rfl) (qf rfl (qh)) ?_ ?_
            · rfl
            refine ⟨qbr ?_, rfl⟩
            rw [qbf]; repeat' split
            all_goals first | rfl | omega | exact hfin | (simp_all; done) | (simp_all; omega)
          try simp only [↓cqA, cqB] at c1
          refine qt (qP (qa (qd (qb (zN rfl rfl rfl (qc (qa ?_))))))); refine qm ?_
          -- leaf 0Tg14Tg19T1F
          refine ret0 (noL hL) (.inl rfl) (qf rfl (qh)) ?_ ?_
          · rfl
          refine ⟨qbr ?_, rfl⟩
          rw [qbf]; repeat' split
          all_goals first | rfl | omega | exact hfin | (simp_all; done) | (simp_all; omega)
        try simp only [↓cqA, cqB] at g19
        refine zS rfl rfl rfl rfl (zS rfl rfl rfl rfl (zS rfl rfl rfl rfl (zS rfl rfl rfl rfl (zA rfl (qj rfl rfl rfl) (qc (qa (qas rfl ?_)))))))
        refine qt (qP (qa (qd (qb (zN rfl rfl rfl (qc (qa ?_))))))); refine qm ?_
        -- leaf 0Tg14Tg19F
        refine ret0 (noL hL) (.inl rfl) (qf rfl (qh)) ?_ ?_
        · rfl
        refine ⟨qbr ?_, rfl⟩
        rw [qbf]; repeat' split
        all_goals first | rfl | omega | exact hfin | (simp_all; done) | (simp_all; omega)
      try simp only [↓cqA, cqB] at g14
      refine zS rfl rfl rfl rfl (zS rfl rfl rfl rfl (zS rfl rfl rfl rfl (zA rfl (qj rfl rfl rfl) (zM rfl rfl rfl (zS rfl rfl rfl rfl ?_)))))
      refine zS rfl rfl rfl rfl (zS rfl rfl rfl rfl (zS rfl rfl rfl rfl (zA rfl (qj rfl rfl rfl) (qc (qa (qas rfl (qt ?_))))))); refine qP (qa (qd (qb (zN rfl rfl rfl (qc (qa (qm ?_)))))))
      -- leaf 0Tg14F
      refine ret0 (noL hL) (.inl rfl) (qf rfl (qh)) ?_ ?_
      · rfl
      refine ⟨qbr ?_, rfl⟩
      rw [qbf]; repeat' split
      all_goals first | rfl | omega | exact hfin | (simp_all; done) | (simp_all; omega)
    try simp only [↓cqA, cqB] at c0
    refine qd (qb (zA rfl (qn rfl rfl rfl rfl) (zN rfl rfl rfl (qc (qa (qu rfl (fun c2 => ?_) (fun c2 => ?_)))))))
    · try simp only [↓cqA, cqB] at c2
      refine qd (qb (zA rfl (qg rfl qad rfl) (zA rfl (qr rfl qT rfl rfl rfl rfl rfl) (zA rfl (qbn rfl rfl rfl rfl) (zM rfl rfl rfl (qA 30 rfl (fun g30 => ?_) (fun g30 => ?_)))))))
      · try simp only [↓cqA, cqB] at g30
        have g30 := size_zero.2 g30
        refine zG rfl rfl rfl rfl (qg rfl qaB rfl) (zG rfl rfl rfl rfl (qr rfl qay rfl rfl rfl rfl rfl) (zG rfl rfl rfl rfl (qN (avs := [_, _, _]) true rfl qb8 rfl rfl (Between_ok _ _ _) (fun _ => rfl) rfl) (zA rfl (qj rfl rfl rfl) (zM rfl rfl rfl (qA 35 rfl (fun g35 => ?_) (fun g35 => ?_))))))
        · try simp only [↓cqA, cqB] at g35
          refine zG rfl rfl rfl rfl (qg rfl qJ rfl) (zG rfl rfl rfl rfl (qr rfl qF rfl rfl rfl rfl rfl) (zG rfl rfl rfl rfl (qy rfl qv rfl) (zG rfl rfl rfl rfl (qn rfl rfl rfl rfl) (zA rfl (qj rfl rfl rfl) (qc (qa (qu rfl (fun c3 => ?_) (fun c3 => ?_))))))))
          · try simp only [↓cqA, cqB] at c3
            refine qd (qb (zN rfl rfl rfl (qc (qa (qm (qL (ql (?_))))))))
            -- leaf 0F2Tg30Tg35T3T
            refine ret0 (noL hL) (.inl rfl) (qf rfl (qh)) ?_ ?_
            · rfl
            refine ⟨qbr ?_, rfl⟩
            rw [qbf]; repeat' split
            all_goals first | rfl | omega | exact hfin | (simp_all; done) | (simp_all; omega)
          try simp only [↓cqA, cqB] at c3
          refine qt (qP (qa (qd (qb (zN rfl rfl rfl (qc (qa ?_))))))); refine qm ?_
          -- leaf 0F2Tg30Tg35T3F
          refine ret0 (noL hL) (.inl rfl) (qf rfl (qh)) ?_ ?_
          · rfl
          refine ⟨qbr ?_, rfl⟩
          rw [qbf]; repeat' split
          all_goals first | rfl | omega | exact hfin | (simp_all; done) | (simp_all; omega)
        try simp only [↓cqA, cqB] at g35
        refine zS rfl rfl rfl rfl (zS rfl rfl rfl rfl (zS rfl rfl rfl rfl (zS rfl rfl rfl rfl (zA rfl (qj rfl rfl rfl) (qc (qa (qas rfl ?_)))))))
        refine qt (qP (qa (qd (qb (zN rfl rfl rfl (qc (qa ?_))))))); refine qm ?_
        -- leaf 0F2Tg30Tg35F
        refine ret0 (noL hL) (.inl rfl) (qf rfl (qh)) ?_ ?_
        · rfl
        refine ⟨qbr ?_, rfl⟩
        rw [qbf]; repeat' split
        all_goals first | rfl | omega | exact hfin | (simp_all; done) | (simp_all; omega)
      try simp only [↓cqA, cqB] at g30
      have g30 := mt size_zero.1 g30
      refine zS rfl rfl rfl rfl (zS rfl rfl rfl rfl (zS rfl rfl rfl rfl (zA rfl (qj rfl rfl rfl) (zM rfl rfl rfl (zS rfl rfl rfl rfl ?_)))))
      refine zS rfl rfl rfl rfl (zS rfl rfl rfl rfl (zS rfl rfl rfl rfl (zA rfl (qj rfl rfl rfl) (qc (qa (qas rfl (qt ?_))))))); refine qP (qa (qd (qb (zN rfl rfl rfl (qc (qa (qm ?_)))))))
      -- leaf 0F2Tg30F
      refine ret0 (noL hL) (.inl rfl) (qf rfl (qh)) ?_ ?_
      · rfl
      refine ⟨qbr ?_, rfl⟩
      rw [qbf]; repeat' split
      all_goals first | rfl | omega | exact hfin | (simp_all; done) | (simp_all; omega)
    try simp only [↓cqA, cqB] at c2
    refine qd (qb (zA rfl (qn rfl rfl rfl rfl) (zN rfl rfl rfl (qc (qa (qu rfl (fun c4 => ?_) (fun c4 => ?_)))))))
    · try simp only [↓cqA, cqB] at c4
      refine qd (qd (qb (zA rfl (qg rfl qad rfl) (zA rfl (qr rfl qT rfl rfl rfl rfl rfl) (qC (avs := [_]) true rfl rfl rfl (by decide) en_almagestref1_Name rfl rfl (rName_ok _) rfl rfl (zA rfl (qU rfl rfl) (zM rfl rfl rfl ?_))))))); refine qA 47 rfl (fun g47 => ?_) (fun g47 => ?_)
      · try simp only [↓cqA, cqB] at g47
        refine zS rfl rfl rfl rfl (zS rfl rfl rfl rfl (zS rfl rfl rfl rfl (zA rfl (qj rfl rfl rfl) (zM rfl rfl rfl (zS rfl rfl rfl rfl ?_)))))
        refine zS rfl rfl rfl rfl (zS rfl rfl rfl rfl (zS rfl rfl rfl rfl (zA rfl (qj rfl rfl rfl) (zM rfl rfl rfl (zS rfl rfl rfl rfl ?_)))))
        refine zS rfl rfl rfl rfl (zS rfl rfl rfl rfl (zS rfl rfl rfl rfl (zS rfl rfl rfl rfl (qaG rfl rfl rfl (by decide) rfl (by decide) (qaG rfl rfl rfl (by decide) rfl (by decide) ?_)))))
        refine zS rfl rfl rfl rfl (zA rfl (qj rfl rfl rfl) (qc (qa (qaj rfl (qd (qb (zN rfl rfl rfl ?_))))))); refine qc (qa (qm (ql (qL (ql (?_))))))
        -- leaf 0F2F4Tg47T
        refine ret0 (noL hL) (.inl rfl) (qf rfl (qh)) ?_ ?_
        · rfl
        refine ⟨qbr ?_, rfl⟩
        rw [qbf]; repeat' split
        all_goals first | rfl | omega | exact hfin | (simp_all; done) | (simp_all; omega)
      try simp only [↓cqA, cqB] at g47
      refine zG rfl rfl rfl rfl (qg rfl qaB rfl) (zG rfl rfl rfl rfl (qr rfl qay rfl rfl rfl rfl rfl) (zG rfl rfl rfl rfl (qn rfl rfl rfl rfl) (zA rfl (qj rfl rfl rfl) (zM rfl rfl rfl (qA 52 rfl (fun g52 => ?_) (fun g52 => ?_))))))
      · try simp only [↓cqA, cqB] at g52
        refine zS rfl rfl rfl rfl (zS rfl rfl rfl rfl (zS rfl rfl rfl rfl (zS rfl rfl rfl rfl (zA rfl (qj rfl rfl rfl) (zM rfl rfl rfl ?_)))))
        refine zS rfl rfl rfl rfl (zS rfl rfl rfl rfl (zS rfl rfl rfl rfl (zS rfl rfl rfl rfl (zS rfl rfl rfl rfl (qaG rfl rfl rfl (by decide) rfl (by decide) ?_)))))
        refine qaG rfl rfl rfl (by decide) rfl (by decide) (zS rfl rfl rfl rfl (zA rfl (qj rfl rfl rfl) (qc (qa (qaj rfl (qd (qb ?_))))))); refine zN rfl rfl rfl (qc (qa (qm (ql (qL (ql (?_)))))))
        -- leaf 0F2F4Tg47Fg52T
        refine ret0 (noL hL) (.inl rfl) (qf rfl (qh)) ?_ ?_
        · rfl
        refine ⟨qbr ?_, rfl⟩
        rw [qbf]; repeat' split
        all_goals first | rfl | omega | exact hfin | (simp_all; done) | (simp_all; omega)
      try simp only [↓cqA, cqB] at g52
      refine zG rfl rfl rfl rfl (qg rfl qJ rfl) (zG rfl rfl rfl rfl (qr rfl qF rfl rfl rfl rfl rfl) (zG rfl rfl rfl rfl (qy rfl qv rfl) (zG rfl rfl rfl rfl (qn rfl rfl rfl rfl) (zA rfl (qj rfl rfl rfl) (zM rfl rfl rfl (qA 58 rfl (fun g58 => ?_) (fun g58 => ?_)))))))
      · try simp only [↓cqA, cqB] at g58
        refine zS rfl rfl rfl rfl (zS rfl rfl rfl rfl (zS rfl rfl rfl rfl (zS rfl rfl rfl rfl (zS rfl rfl rfl rfl (qaG rfl rfl rfl (by decide) rfl (by decide) ?_)))))
        refine qaG rfl rfl rfl (by decide) rfl (by decide) (zS rfl rfl rfl rfl (zA rfl (qj rfl rfl rfl) (qc (qa (qaj rfl (qd (qb ?_))))))); refine zN rfl rfl rfl (qc (qa (qm (ql (qL (ql (?_)))))))
        -- leaf 0F2F4Tg47Fg52Fg58T
        refine ret0 (noL hL) (.inl rfl) (qf rfl (qh)) ?_ ?_
        · rfl
        refine ⟨qbr ?_, rfl⟩
        rw [qbf]; repeat' split
        all_goals first | rfl | omega | exact hfin | (simp_all; done) | (simp_all; omega)
      try simp only [↓cqA, cqB] at g58
      refine zG rfl rfl rfl rfl (qg rfl qJ rfl) (zG rfl rfl rfl rfl (qr rfl qF rfl rfl rfl rfl rfl) (zG rfl rfl rfl rfl (qy rfl qv rfl) (zG rfl rfl rfl rfl (qn rfl rfl rfl rfl) (zG rfl rfl rfl rfl (qk (.inl rfl) rfl) (qA 63 rfl (fun g63 => ?_) (fun g63 => ?_))))))
      · try simp only [↓cqA, cqB] at g63
        refine zG rfl rfl rfl rfl (qk (.inl rfl) rfl) (zG rfl rfl rfl rfl (qn rfl rfl rfl rfl) (zG rfl rfl rfl rfl (qj rfl rfl rfl) (zA rfl (qj rfl rfl rfl) (qc (qa (qu rfl (fun c5 => ?_) (fun c5 => ?_)))))))
        · try simp only [↓cqA, cqB] at c5
          refine qd (qb (zN rfl rfl rfl (qc (qa (qm (ql (qL (ql (?_)))))))))
          -- leaf 0F2F4Tg47Fg52Fg58Fg63T5T
          refine ret0 (noL hL) (.inl rfl) (qf rfl (qh)) ?_ ?_
          · rfl
          refine ⟨qbr ?_, rfl⟩
          rw [qbf]; repeat' split
          all_goals first | rfl | omega | exact hfin | (simp_all; done) | (simp_all; omega)
        try simp only [↓cqA, cqB] at c5
        refine qt (qa (qd (qb (zN rfl rfl rfl (qc (qa (qd ?_))))))); refine qd (qb (zN rfl rfl rfl (qc (qa (qB ?_)))))
        refine qV (t.args.length) (fun k => k ≤ t.args.length ∧ ∀ j, j < k → qce (qbf d) 1 (t.args.take j) ≤ 24) (fun k => ⟨[(1, iv e), (2, .ptr 2 0), (5, iv (qce (qbf d) 1 (t.args.take k))), (6, iv (k : Int))], [(2, .box (lift false (tmD t)))]⟩) (⟨by omega, fun j hj => absurd hj (by omega)⟩) ?_ (fun k hk hp => ?_)
        · exact qI (SubT.cons (zT rfl) (SubT.cons (zT rfl) (SubT.cons (zT rfl) (SubT.cons (zT rfl) (SubT.nil))))) (SubO.cons (qag rfl (by rfl)) (SubO.nil)) rfl rfl (noL' (noL hL) _)
        have hw := sizeL_le (qbf d) (25 + 24 * d) (by omega) 1 (t.args.take k) (fun t => sizeS_le d t) (by omega)
        have hw0 := sizeL_ge (qbf d) (fun t => by have := sizeS_ge d t; omega) 1 (t.args.take k)
        refine qd (qd (qb (zM rfl rfl rfl (zA rfl (qg rfl qJ rfl) (zA rfl (qr rfl qF rfl rfl rfl rfl rfl) (zA rfl (qy rfl qv rfl) (zA rfl (qn rfl rfl rfl rfl) ?_))))))); refine zM rfl rfl rfl (qA 73 rfl (fun g73 => ?_) (fun g73 => ?_))
        · try simp only [↓cqA, cqB] at g73
          obtain ⟨u, hu⟩ := qK (l := t.args) (k := k) (by omega)
          have huw := sizeS_le d u
          have huw0 := sizeS_ge d u
          refine zG rfl rfl rfl rfl (qk (.inl rfl) rfl) (zG rfl rfl rfl rfl (qn rfl rfl rfl rfl) (zA rfl (qj rfl rfl rfl) (qc (qa (qu rfl (fun c6 => ?_) (fun c6 => ?_))))))
          · try simp only [↓cqA, cqB] at c6
            refine qt (qa (qd (qB (qb (zM rfl rfl rfl (zA rfl (qg rfl qJ rfl) (zA rfl (qr rfl qF rfl rfl rfl rfl rfl) ?_))))))); refine zM rfl rfl rfl (zA rfl (qo rfl qv rfl rfl (by omega) (qax hu)) ?_)
            refine zA rfl (qD rfl qi rfl rfl) (zM rfl rfl rfl (zA rfl (stp_sub rfl rfl rfl (by omega)) (qC (avs := [_, _]) true rfl rfl rfl (by decide) qcF rfl rfl (ih (by omega) (by omega) _ (by omega) u (Tm.wfs_get ht.2.2.2.2 hu)) rfl rfl ?_)))
            refine zA rfl (qM rfl rfl rfl (by omega)) (zN rfl rfl rfl (qc (qP (qa (qb (zM rfl rfl rfl (zA rfl (qM rfl rfl rfl (by omega)) ?_))))))); refine zN rfl rfl rfl (qc ?_)
            have hb := sizeL_snoc (qbf d) 1 (t.args.take k) u (fun j hj => by
              by_cases hjk : j < k
              · have := hp.2 j hjk; rwa [List.take_take, Nat.min_eq_left (by omega)]
              · rw [List.take_of_length_le (by simp; omega)]; omega)
            rw [← qah hu] at hb
            refine qa ?_; refine ⟨?_, ?_, ?_⟩
            · skip
              omega
            · skip
              refine ⟨by omega, fun j hj => ?_⟩
              by_cases hjk : j < k
              · exact hp.2 j hjk
              · rw [show j = k by omega]; omega
            exact qI (SubT.cons (zT rfl) (SubT.cons (zT rfl) (SubT.cons (qbg rfl (by exact qb6 hb.symm)) (SubT.cons (zT rfl) (SubT.nil))))) (SubO.cons (qag rfl (by rfl)) (SubO.nil)) rfl rfl (noL' (noL hL) _)
          try simp only [↓cqA, cqB] at c6
          have hfin : qce (qbf d) 1 (t.args.take k) = qce (qbf d) 1 t.args := ((sizeL_take (qbf d) _ _ k hp.1 hp.2).trans (sizeL_stop _ _ _ (by omega))).symm
          refine qQ (qq (qq (q7 ?_))); refine qa (qd (qb (zM rfl rfl rfl (zN rfl rfl rfl (qc (qa (qm ?_))))))); refine qL (ql (?_))
          -- leaf 0F2F4Tg47Fg52Fg58Fg63T5Fg73T6F
          refine ret0 (noL hL) (.inl rfl) (qf rfl (qh)) ?_ ?_
          · rfl
          refine ⟨qbr ?_, rfl⟩
          rw [qbf]; repeat' split
          all_goals first | rfl | omega | exact hfin | (simp_all; done) | (simp_all; omega)
        try simp only [↓cqA, cqB] at g73
        have hfin : qce (qbf d) 1 (t.args.take k) = qce (qbf d) 1 t.args := by rw [List.take_of_length_le (by omega)]
        refine zS rfl rfl rfl rfl (zS rfl rfl rfl rfl (zA rfl (qj rfl rfl rfl) (qc (qa (qas rfl (qQ (qq (qq (q7 ?_))))))))); refine qa (qd (qb ?_))
        refine zM rfl rfl rfl (zN rfl rfl rfl (qc (qa (qm (qL (ql (?_)))))))
        -- leaf 0F2F4Tg47Fg52Fg58Fg63T5Fg73F
        refine ret0 (noL hL) (.inl rfl) (qf rfl (qh)) ?_ ?_
        · rfl
        refine ⟨qbr ?_, rfl⟩
        rw [qbf]; repeat' split
        all_goals first | rfl | omega | exact hfin | (simp_all; done) | (simp_all; omega)
      try simp only [↓cqA, cqB] at g63
      refine zS rfl rfl rfl rfl (zS rfl rfl rfl rfl (zG rfl rfl rfl rfl (qj rfl rfl rfl) (zA rfl (qj rfl rfl rfl) (qc (qa (qas rfl (qt ?_))))))); refine qa ?_
      refine qd (qb (zN rfl rfl rfl (qc (qa (qd (qd (qb ?_))))))); refine zN rfl rfl rfl (qc (qa (qB ?_)))
      refine qV (t.args.length) (fun k => k ≤ t.args.length ∧ ∀ j, j < k → qce (qbf d) 1 (t.args.take j) ≤ 24) (fun k => ⟨[(1, iv e), (2, .ptr 2 0), (5, iv (qce (qbf d) 1 (t.args.take k))), (6, iv (k : Int))], [(2, .box (lift false (tmD t)))]⟩) (⟨by omega, fun j hj => absurd hj (by omega)⟩) ?_ (fun k hk hp => ?_)
      · exact qI (SubT.cons (zT rfl) (SubT.cons (zT rfl) (SubT.cons (zT rfl) (SubT.cons (zT rfl) (SubT.nil))))) (SubO.cons (qag rfl (by rfl)) (SubO.nil)) rfl rfl (noL' (noL hL) _)
      have hw := sizeL_le (qbf d) (25 + 24 * d) (by omega) 1 (t.args.take k) (fun t => sizeS_le d t) (by omega)
      have hw0 := sizeL_ge (qbf d) (fun t => by have := sizeS_ge d t; omega) 1 (t.args.take k)
      refine qd (qd (qb (zM rfl rfl rfl (zA rfl (qg rfl qJ rfl) (zA rfl (qr rfl qF rfl rfl rfl rfl rfl) (zA rfl (qy rfl qv rfl) (zA rfl (qn rfl rfl rfl rfl) ?_))))))); refine zM rfl rfl rfl (qA 73 rfl (fun g73 => ?_) (fun g73 => ?_))
      · try simp only [↓cqA, cqB] at g73
        obtain ⟨u, hu⟩ := qK (l := t.args) (k := k) (by omega)
        have huw := sizeS_le d u
        have huw0 := sizeS_ge d u
        refine zG rfl rfl rfl rfl (qk (.inl rfl) rfl) (zG rfl rfl rfl rfl (qn rfl rfl rfl rfl) (zA rfl (qj rfl rfl rfl) (qc (qa (qu rfl (fun c6 => ?_) (fun c6 => ?_))))))
        · try simp only [↓cqA, cqB] at c6
          refine qt (qa (qd (qB (qb (zM rfl rfl rfl (zA rfl (qg rfl qJ rfl) (zA rfl (qr rfl qF rfl rfl rfl rfl rfl) ?_))))))); refine zM rfl rfl rfl (zA rfl (qo rfl qv rfl rfl (by omega) (qax hu)) ?_)
          refine zA rfl (qD rfl qi rfl rfl) (zM rfl rfl rfl (zA rfl (stp_sub rfl rfl rfl (by omega)) (qC (avs := [_, _]) true rfl rfl rfl (by decide) qcF rfl rfl (ih (by omega) (by omega) _ (by omega) u (Tm.wfs_get ht.2.2.2.2 hu)) rfl rfl ?_)))
          refine zA rfl (qM rfl rfl rfl (by omega)) (zN rfl rfl rfl (qc (qP (qa (qb (zM rfl rfl rfl (zA rfl (qM rfl rfl rfl (by omega)) ?_))))))); refine zN rfl rfl rfl (qc ?_)
          have hb := sizeL_snoc (qbf d) 1 (t.args.take k) u (fun j hj => by
            by_cases hjk : j < k
            · have := hp.2 j hjk; rwa [List.take_take, Nat.min_eq_left (by omega)]
            · rw [List.take_of_length_le (by simp; omega)]; omega)
          rw [← qah hu] at hb
          refine qa ?_; refine ⟨?_, ?_, ?_⟩
          · skip
            omega
          · skip
            refine ⟨by omega, fun j hj => ?_⟩
            by_cases hjk : j < k
            · exact hp.2 j hjk
            · rw [show j = k by omega]; omega
          exact qI (SubT.cons (zT rfl) (SubT.cons (zT rfl) (SubT.cons (qbg rfl (by exact qb6 hb.symm)) (SubT.cons (zT rfl) (SubT.nil))))) (SubO.cons (qag rfl (by rfl)) (SubO.nil)) rfl rfl (noL' (noL hL) _)
        try simp only [↓cqA, cqB] at c6
        have hfin : qce (qbf d) 1 (t.args.take k) = qce (qbf d) 1 t.args := ((sizeL_take (qbf d) _ _ k hp.1 hp.2).trans (sizeL_stop _ _ _ (by omega))).symm
        refine qQ (qq (qq (q7 ?_))); refine qa (qd (qb (zM rfl rfl rfl (zN rfl rfl rfl (qc (qa (qm ?_))))))); refine qL (ql (?_))
        -- leaf 0F2F4Tg47Fg52Fg58Fg63Fg73T6F
        refine ret0 (noL hL) (.inl rfl) (qf rfl (qh)) ?_ ?_
        · rfl
        refine ⟨qbr ?_, rfl⟩
        rw [qbf]; repeat' split
        all_goals first | rfl | omega | exact hfin | (simp_all; done) | (simp_all; omega)
      try simp only [↓cqA, cqB] at g73
      have hfin : qce (qbf d) 1 (t.args.take k) = qce (qbf d) 1 t.args := by rw [List.take_of_length_le (by omega)]
      refine zS rfl rfl rfl rfl (zS rfl rfl rfl rfl (zA rfl (qj rfl rfl rfl) (qc (qa (qas rfl (qQ (qq (qq (q7 ?_))))))))); refine qa (qd (qb ?_))
      refine zM rfl rfl rfl (zN rfl rfl rfl (qc (qa (qm (qL (ql (?_)))))))
      -- leaf 0F2F4Tg47Fg52Fg58Fg63Fg73F
      refine ret0 (noL hL) (.inl rfl) (qf rfl (qh)) ?_ ?_
      · rfl
      refine ⟨qbr ?_, rfl⟩
      rw [qbf]; repeat' split
      all_goals first | rfl | omega | exact hfin | (simp_all; done) | (simp_all; omega)
    try simp only [↓cqA, cqB] at c4
    refine qt (qP (qa (qd (qb (zN rfl rfl rfl (qc (qa ?_))))))); refine qm ?_
    -- leaf 0F2F4F
    refine ret0 (noL hL) (.inl rfl) (qf rfl (qh)) ?_ ?_
    · rfl
    refine ⟨qbr ?_, rfl⟩
    rw [qbf]; repeat' split
    all_goals first | rfl | omega | exact hfin | (simp_all; done) | (simp_all; omega)
end Go.Proofs.YtdecgkhdbfgldaaGreat
