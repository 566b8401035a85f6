/- Part 7 of the proof: Fe. -/
import Derived.Test.YtpgceiijoedppaaGreatB6
set_option linter.unusedVariables false
set_option linter.unusedSimpArgs false
set_option maxRecDepth 8000
namespace Go.Proofs.YtpgceiijoedppaaGreat
open Go
theorem Between_ok (x a b : Int) : PF 160 [iv x, iv a, iv b] (bv (decide (a ≤ x ∧ x ≤ b))) := by
 refine qF Tryz.func160 E Tryz.ntmps160 zL fun c hL hQ hDD => (qd (qb (zX E (zK (qd (qb ?_)))))); refine zX E (zX E (zA E (qj E E E E) (zX E (qt 10 E (fun g10 => ?_) (fun g10 => ?_)))))
 ·try simp only[↓cqA,cqB]at g10
  refine zZ E (qk (.inl E) E) (zZ E (qk (.inl E) E) (zZ E (qj E E E E) (zA E (qg E E E) (zX E (zK (qo (zI hL (qh E qi) ?_ ?_)))))))
  ·rfl
  refine ⟨qT ?_, rfl⟩
  rw [Bool.eq_iff_iff]; simp; try omega
 try simp only[↓cqA,cqB]at g10
 refine zY E (zY E (zY E (zA E (qg E E E) (zX E (zK (qo (zI hL (qh E qi) ?_ ?_)))))))
 ·rfl
 refine ⟨qT ?_, rfl⟩
 rw [Bool.eq_iff_iff]; simp; try omega
def tailB (s : ByteArray) : Bool := (List.range s.size).all fun i => qbl (qcT s i)
theorem rtail_ok (s : ByteArray) (hs : s.size ≤ 140737488351232) : PF 119 [sv s] (bv (tailB s)) := by
 refine qF Tryz.func119 E Tryz.ntmps119 zL fun c hL hQ hDD => (qd (qb (zX E (zK (qd (qd ?_)))))); refine qb (zX E (qc (qa (qv (q6 (s.size) (fun k => k ≤ s.size ∧ ∀ j, j < k → qbl (qcT s j) = true) (fun k => ⟨[(0, sv s), (3, iv (k : Int))], []⟩) (⟨by omega, fun j hj => absurd hj (by omega)⟩) ?_ (fun k hk hp => ?_))))))
 ·exact zR hL (zC E (zC E SubT.nil)) SubO.nil
 refine qd (qd (qb (zX E (zX E (zA E (qc9 E qbG E) (zA E (qj E E E E) (qc ?_))))))); refine qa (qq E (fun c0 => ?_) (fun c0 => ?_))
 ·try simp only[↓cqA,cqB]at c0
  refine qr (qa (qd (qv (qd (qb (zX E (zX E ?_))))))); refine zA E (qdR E qbG E E (by omega) (by omega)) ?_
  refine zX E (zK (qd (qb (zX E (zA E (qj E E E E) (zX E ?_)))))); refine qt 16 E (fun g16 => ?_) (fun g16 => ?_)
  ·try simp only[↓cqA,cqB]at g16
   refine zZ E (qk (.inl E) E) (zZ E (qj E E E E) (zA E (qg E E E) (zX E (qt 20 E (fun g20 => ?_) (fun g20 => ?_)))))
   ·try simp only[↓cqA,cqB]at g20
    refine zY E (zY E (zY E (qaE E E E zD E zD (qaE E E E zD E zD (zY E (zA E (qg E E E) (zX E (zY E (zY E (zY E (qaE E E E zD E zD (qaE E E E zD E zD (zY E (zA E (qg E E E) (zX E (zY E (zY E ?_)))))))))))))))))
    refine zA E (qg E E E) (zA E (qal E E) (zK (qab E (qr (qP (qa ?_)))))); refine qb (zX E (zA E (qJ E E E (by omega)) (zX E (qc ?_))))
    have hin : qbl (qcT s k) = true := by
     simp [qbl, qcn, qcr, digB]; omega
    refine qa ?_; refine ⟨?_, ?_, ?_⟩
    ·omega
    ·refine ⟨by omega, fun j hj => ?_⟩
     by_cases hjk : j < k
     ·exact hp.2 j hjk
     ·rw [show j = k by omega]; exact hin
    exact zR hL (zC E (zC E SubT.nil)) SubO.nil
   try simp only[↓cqA,cqB]at g20
   refine zZ E (qk (.inl E) E) (zZ E (qj E E E E) (zZ E (qk (.inl E) E) (qt 23 E (fun g23 => ?_) (fun g23 => ?_))))
   ·try simp only[↓cqA,cqB]at g23
    refine zZ E (qk (.inl E) E) (zZ E (qj E E E E) (zZ E (qg E E E) (zA E (qg E E E) (zX E (qt 28 E (fun g28 => ?_) (fun g28 => ?_))))))
    ·try simp only[↓cqA,cqB]at g28
     refine zY E (zY E (zY E (qaE E E E zD E zD (qaE E E E zD E zD (zY E (zA E (qg E E E) (zX E (zY E (zY E (zA E (qg E E E) (zA E (qal E E) ?_)))))))))))
     refine zK (qab E (qr (qP (qa (qb (zX E ?_)))))); refine zA E (qJ E E E (by omega)) (zX E (qc ?_))
     have hin : qbl (qcT s k) = true := by
      simp [qbl, qcn, qcr, digB]; omega
     refine qa ?_; refine ⟨?_, ?_, ?_⟩
     ·omega
     ·refine ⟨by omega, fun j hj => ?_⟩
      by_cases hjk : j < k
      ·exact hp.2 j hjk
      ·rw [show j = k by omega]; exact hin
     exact zR hL (zC E (zC E SubT.nil)) SubO.nil
    try simp only[↓cqA,cqB]at g28
    refine zZ E (qk (.inl E) E) (zZ E (qj E E E E) (zZ E (qk (.inl E) E) (qt 31 E (fun g31 => ?_) (fun g31 => ?_))))
    ·try simp only[↓cqA,cqB]at g31
     refine zZ E (qk (.inl E) E) (zZ E (qj E E E E) (zZ E (qg E E E) (zA E (qg E E E) (zX E (qt 36 E (fun g36 => ?_) (fun g36 => ?_))))))
     ·try simp only[↓cqA,cqB]at g36
      refine zY E (zY E (zA E (qg E E E) (zA E (qal E E) (zK (qab E (qr ?_)))))); refine qP (qa (qb (zX E (zA E (qJ E E E (by omega)) (zX E (qc ?_))))))
      have hin : qbl (qcT s k) = true := by
       simp [qbl, qcn, qcr, digB]; omega
      refine qa ?_; refine ⟨?_, ?_, ?_⟩
      ·omega
      ·refine ⟨by omega, fun j hj => ?_⟩
       by_cases hjk : j < k
       ·exact hp.2 j hjk
       ·rw [show j = k by omega]; exact hin
      exact zR hL (zC E (zC E SubT.nil)) SubO.nil
     try simp only[↓cqA,cqB]at g36
     refine zZ E (qk (.inl E) E) (zZ E (qj E E E E) (zA E (qg E E E) (zA E (qal E E) (zK (qq E (fun c1 => ?_) (fun c1 => ?_))))))
     ·try simp only[↓cqA,cqB]at c1
      refine qd (qb (zX E (zK (qo (qS (qm (qm (qS (qm (zI hL (qh E qi) ?_ ?_))))))))))
      ·rfl
      refine ⟨qT ?_, rfl⟩
      symm; rw [tailB, List.all_eq_false]
      exact ⟨k, by simp; omega, by simp [qbl, qcn, qcr, digB]; omega⟩
     try simp only[↓cqA,cqB]at c1
     refine qr (qP (qa (qb (zX E (zA E (qJ E E E (by omega)) (zX E (qc ?_)))))))
     have hin : qbl (qcT s k) = true := by
      simp [qbl, qcn, qcr, digB]; omega
     refine qa ?_; refine ⟨?_, ?_, ?_⟩
     ·omega
     ·refine ⟨by omega, fun j hj => ?_⟩
      by_cases hjk : j < k
      ·exact hp.2 j hjk
      ·rw [show j = k by omega]; exact hin
     exact zR hL (zC E (zC E SubT.nil)) SubO.nil
    try simp only[↓cqA,cqB]at g31
    refine zY E (zY E (zZ E (qg E E E) (zA E (qg E E E) (zX E (zZ E (qk (.inl E) E) (zZ E (qj E E E E) (zA E (qg E E E) (zA E (qal E E) (zK (qq E (fun c1 => ?_) (fun c1 => ?_)))))))))))
    ·try simp only[↓cqA,cqB]at c1
     refine qd (qb (zX E (zK (qo (qS (qm (qm (qS (qm (zI hL (qh E qi) ?_ ?_))))))))))
     ·rfl
     refine ⟨qT ?_, rfl⟩
     symm; rw [tailB, List.all_eq_false]
     exact ⟨k, by simp; omega, by simp [qbl, qcn, qcr, digB]; omega⟩
    try simp only[↓cqA,cqB]at c1
    refine qr (qP (qa (qb (zX E (zA E (qJ E E E (by omega)) (zX E (qc ?_)))))))
    have hin : qbl (qcT s k) = true := by
     simp [qbl, qcn, qcr, digB]; omega
    refine qa ?_; refine ⟨?_, ?_, ?_⟩
    ·omega
    ·refine ⟨by omega, fun j hj => ?_⟩
     by_cases hjk : j < k
     ·exact hp.2 j hjk
     ·rw [show j = k by omega]; exact hin
    exact zR hL (zC E (zC E SubT.nil)) SubO.nil
   try simp only[↓cqA,cqB]at g23
   refine zY E (zY E (zZ E (qg E E E) (zA E (qg E E E) (zX E (zZ E (qk (.inl E) E) (zZ E (qj E E E E) (zZ E (qk (.inl E) E) (qt 31 E (fun g31 => ?_) (fun g31 => ?_)))))))))
   ·try simp only[↓cqA,cqB]at g31
    refine zZ E (qk (.inl E) E) (zZ E (qj E E E E) (zZ E (qg E E E) (zA E (qg E E E) (zX E (qt 36 E (fun g36 => ?_) (fun g36 => ?_))))))
    ·try simp only[↓cqA,cqB]at g36
     refine zY E (zY E (zA E (qg E E E) (zA E (qal E E) (zK (qab E (qr ?_)))))); refine qP (qa (qb (zX E (zA E (qJ E E E (by omega)) (zX E (qc ?_))))))
     have hin : qbl (qcT s k) = true := by
      simp [qbl, qcn, qcr, digB]; omega
     refine qa ?_; refine ⟨?_, ?_, ?_⟩
     ·omega
     ·refine ⟨by omega, fun j hj => ?_⟩
      by_cases hjk : j < k
      ·exact hp.2 j hjk
      ·rw [show j = k by omega]; exact hin
     exact zR hL (zC E (zC E SubT.nil)) SubO.nil
    try simp only[↓cqA,cqB]at g36
    refine zZ E (qk (.inl E) E) (zZ E (qj E E E E) (zA E (qg E E E) (zA E (qal E E) (zK (qq E (fun c1 => ?_) (fun c1 => ?_))))))
    ·try simp only[↓cqA,cqB]at c1
     refine qd (qb (zX E (zK (qo (qS (qm (qm (qS (qm (zI hL (qh E qi) ?_ ?_))))))))))
     ·rfl
     refine ⟨qT ?_, rfl⟩
     symm; rw [tailB, List.all_eq_false]
     exact ⟨k, by simp; omega, by simp [qbl, qcn, qcr, digB]; omega⟩
    try simp only[↓cqA,cqB]at c1
    refine qr (qP (qa (qb (zX E (zA E (qJ E E E (by omega)) (zX E (qc ?_)))))))
    have hin : qbl (qcT s k) = true := by
     simp [qbl, qcn, qcr, digB]; omega
    refine qa ?_; refine ⟨?_, ?_, ?_⟩
    ·omega
    ·refine ⟨by omega, fun j hj => ?_⟩
     by_cases hjk : j < k
     ·exact hp.2 j hjk
     ·rw [show j = k by omega]; exact hin
    exact zR hL (zC E (zC E SubT.nil)) SubO.nil
   try simp only[↓cqA,cqB]at g31
   refine zY E (zY E (zZ E (qg E E E) (zA E (qg E E E) (zX E (zZ E (qk (.inl E) E) (zZ E (qj E E E E) (zA E (qg E E E) (zA E (qal E E) (zK (qq E (fun c1 => ?_) (fun c1 => ?_)))))))))))
   ·try simp only[↓cqA,cqB]at c1
    refine qd (qb (zX E (zK (qo (qS (qm (qm (qS (qm (zI hL (qh E qi) ?_ ?_))))))))))
    ·rfl
    refine ⟨qT ?_, rfl⟩
    symm; rw [tailB, List.all_eq_false]
    exact ⟨k, by simp; omega, by simp [qbl, qcn, qcr, digB]; omega⟩
   try simp only[↓cqA,cqB]at c1
   refine qr (qP (qa (qb (zX E (zA E (qJ E E E (by omega)) (zX E (qc ?_)))))))
   have hin : qbl (qcT s k) = true := by
    simp [qbl, qcn, qcr, digB]; omega
   refine qa ?_; refine ⟨?_, ?_, ?_⟩
   ·omega
   ·refine ⟨by omega, fun j hj => ?_⟩
    by_cases hjk : j < k
    ·exact hp.2 j hjk
    ·rw [show j = k by omega]; exact hin
   exact zR hL (zC E (zC E SubT.nil)) SubO.nil
  try simp only[↓cqA,cqB]at g16
  refine zY E (zY E (zA E (qg E E E) (zX E (zZ E (qk (.inl E) E) (zZ E (qj E E E E) (zZ E (qk (.inl E) E) (qt 23 E (fun g23 => ?_) (fun g23 => ?_))))))))
  ·try simp only[↓cqA,cqB]at g23
   refine zZ E (qk (.inl E) E) (zZ E (qj E E E E) (zZ E (qg E E E) (zA E (qg E E E) (zX E (qt 28 E (fun g28 => ?_) (fun g28 => ?_))))))
   ·try simp only[↓cqA,cqB]at g28
    refine zY E (zY E (zY E (qaE E E E zD E zD (qaE E E E zD E zD (zY E (zA E (qg E E E) (zX E (zY E (zY E (zA E (qg E E E) (zA E (qal E E) ?_)))))))))))
    refine zK (qab E (qr (qP (qa (qb (zX E ?_)))))); refine zA E (qJ E E E (by omega)) (zX E (qc ?_))
    have hin : qbl (qcT s k) = true := by
     simp [qbl, qcn, qcr, digB]; omega
    refine qa ?_; refine ⟨?_, ?_, ?_⟩
    ·omega
    ·refine ⟨by omega, fun j hj => ?_⟩
     by_cases hjk : j < k
     ·exact hp.2 j hjk
     ·rw [show j = k by omega]; exact hin
    exact zR hL (zC E (zC E SubT.nil)) SubO.nil
   try simp only[↓cqA,cqB]at g28
   refine zZ E (qk (.inl E) E) (zZ E (qj E E E E) (zZ E (qk (.inl E) E) (qt 31 E (fun g31 => ?_) (fun g31 => ?_))))
   ·try simp only[↓cqA,cqB]at g31
    refine zZ E (qk (.inl E) E) (zZ E (qj E E E E) (zZ E (qg E E E) (zA E (qg E E E) (zX E (qt 36 E (fun g36 => ?_) (fun g36 => ?_))))))
    ·try simp only[↓cqA,cqB]at g36
     refine zY E (zY E (zA E (qg E E E) (zA E (qal E E) (zK (qab E (qr ?_)))))); refine qP (qa (qb (zX E (zA E (qJ E E E (by omega)) (zX E (qc ?_))))))
     have hin : qbl (qcT s k) = true := by
      simp [qbl, qcn, qcr, digB]; omega
     refine qa ?_; refine ⟨?_, ?_, ?_⟩
     ·omega
     ·refine ⟨by omega, fun j hj => ?_⟩
      by_cases hjk : j < k
      ·exact hp.2 j hjk
      ·rw [show j = k by omega]; exact hin
     exact zR hL (zC E (zC E SubT.nil)) SubO.nil
    try simp only[↓cqA,cqB]at g36
    refine zZ E (qk (.inl E) E) (zZ E (qj E E E E) (zA E (qg E E E) (zA E (qal E E) (zK (qq E (fun c1 => ?_) (fun c1 => ?_))))))
    ·try simp only[↓cqA,cqB]at c1
     refine qd (qb (zX E (zK (qo (qS (qm (qm (qS (qm (zI hL (qh E qi) ?_ ?_))))))))))
     ·rfl
     refine ⟨qT ?_, rfl⟩
     symm; rw [tailB, List.all_eq_false]
     exact ⟨k, by simp; omega, by simp [qbl, qcn, qcr, digB]; omega⟩
    try simp only[↓cqA,cqB]at c1
    refine qr (qP (qa (qb (zX E (zA E (qJ E E E (by omega)) (zX E (qc ?_)))))))
    have hin : qbl (qcT s k) = true := by
     simp [qbl, qcn, qcr, digB]; omega
    refine qa ?_; refine ⟨?_, ?_, ?_⟩
    ·omega
    ·refine ⟨by omega, fun j hj => ?_⟩
     by_cases hjk : j < k
     ·exact hp.2 j hjk
     ·rw [show j = k by omega]; exact hin
    exact zR hL (zC E (zC E SubT.nil)) SubO.nil
   try simp only[↓cqA,cqB]at g31
   refine zY E (zY E (zZ E (qg E E E) (zA E (qg E E E) (zX E (zZ E (qk (.inl E) E) (zZ E (qj E E E E) (zA E (qg E E E) (zA E (qal E E) (zK (qq E (fun c1 => ?_) (fun c1 => ?_)))))))))))
   ·try simp only[↓cqA,cqB]at c1
    refine qd (qb (zX E (zK (qo (qS (qm (qm (qS (qm (zI hL (qh E qi) ?_ ?_))))))))))
    ·rfl
    refine ⟨qT ?_, rfl⟩
    symm; rw [tailB, List.all_eq_false]
    exact ⟨k, by simp; omega, by simp [qbl, qcn, qcr, digB]; omega⟩
   try simp only[↓cqA,cqB]at c1
   refine qr (qP (qa (qb (zX E (zA E (qJ E E E (by omega)) (zX E (qc ?_)))))))
   have hin : qbl (qcT s k) = true := by
    simp [qbl, qcn, qcr, digB]; omega
   refine qa ?_; refine ⟨?_, ?_, ?_⟩
   ·omega
   ·refine ⟨by omega, fun j hj => ?_⟩
    by_cases hjk : j < k
    ·exact hp.2 j hjk
    ·rw [show j = k by omega]; exact hin
   exact zR hL (zC E (zC E SubT.nil)) SubO.nil
  try simp only[↓cqA,cqB]at g23
  refine zY E (zY E (zZ E (qg E E E) (zA E (qg E E E) (zX E (zZ E (qk (.inl E) E) (zZ E (qj E E E E) (zZ E (qk (.inl E) E) (qt 31 E (fun g31 => ?_) (fun g31 => ?_)))))))))
  ·try simp only[↓cqA,cqB]at g31
   refine zZ E (qk (.inl E) E) (zZ E (qj E E E E) (zZ E (qg E E E) (zA E (qg E E E) (zX E (qt 36 E (fun g36 => ?_) (fun g36 => ?_))))))
   ·try simp only[↓cqA,cqB]at g36
    refine zY E (zY E (zA E (qg E E E) (zA E (qal E E) (zK (qab E (qr ?_)))))); refine qP (qa (qb (zX E (zA E (qJ E E E (by omega)) (zX E (qc ?_))))))
    have hin : qbl (qcT s k) = true := by
     simp [qbl, qcn, qcr, digB]; omega
    refine qa ?_; refine ⟨?_, ?_, ?_⟩
    ·omega
    ·refine ⟨by omega, fun j hj => ?_⟩
     by_cases hjk : j < k
     ·exact hp.2 j hjk
     ·rw [show j = k by omega]; exact hin
    exact zR hL (zC E (zC E SubT.nil)) SubO.nil
   try simp only[↓cqA,cqB]at g36
   refine zZ E (qk (.inl E) E) (zZ E (qj E E E E) (zA E (qg E E E) (zA E (qal E E) (zK (qq E (fun c1 => ?_) (fun c1 => ?_))))))
   ·try simp only[↓cqA,cqB]at c1
    refine qd (qb (zX E (zK (qo (qS (qm (qm (qS (qm (zI hL (qh E qi) ?_ ?_))))))))))
    ·rfl
    refine ⟨qT ?_, rfl⟩
    symm; rw [tailB, List.all_eq_false]
    exact ⟨k, by simp; omega, by simp [qbl, qcn, qcr, digB]; omega⟩
   try simp only[↓cqA,cqB]at c1
   refine qr (qP (qa (qb (zX E (zA E (qJ E E E (by omega)) (zX E (qc ?_)))))))
   have hin : qbl (qcT s k) = true := by
    simp [qbl, qcn, qcr, digB]; omega
   refine qa ?_; refine ⟨?_, ?_, ?_⟩
   ·omega
   ·refine ⟨by omega, fun j hj => ?_⟩
    by_cases hjk : j < k
    ·exact hp.2 j hjk
    ·rw [show j = k by omega]; exact hin
   exact zR hL (zC E (zC E SubT.nil)) SubO.nil
  try simp only[↓cqA,cqB]at g31
  refine zY E (zY E (zZ E (qg E E E) (zA E (qg E E E) (zX E (zZ E (qk (.inl E) E) (zZ E (qj E E E E) (zA E (qg E E E) (zA E (qal E E) (zK (qq E (fun c1 => ?_) (fun c1 => ?_)))))))))))
  ·try simp only[↓cqA,cqB]at c1
   refine qd (qb (zX E (zK (qo (qS (qm (qm (qS (qm (zI hL (qh E qi) ?_ ?_))))))))))
   ·rfl
   refine ⟨qT ?_, rfl⟩
   symm; rw [tailB, List.all_eq_false]
   exact ⟨k, by simp; omega, by simp [qbl, qcn, qcr, digB]; omega⟩
  try simp only[↓cqA,cqB]at c1
  refine qr (qP (qa (qb (zX E (zA E (qJ E E E (by omega)) (zX E (qc ?_)))))))
  have hin : qbl (qcT s k) = true := by
   simp [qbl, qcn, qcr, digB]; omega
  refine qa ?_; refine ⟨?_, ?_, ?_⟩
  ·omega
  ·refine ⟨by omega, fun j hj => ?_⟩
   by_cases hjk : j < k
   ·exact hp.2 j hjk
   ·rw [show j = k by omega]; exact hin
  exact zR hL (zC E (zC E SubT.nil)) SubO.nil
 try simp only[↓cqA,cqB]at c0
 refine qQ (qn (qn (qX ?_))); refine qa (qd (qb (zX E (zK (qo (zI hL (qh E qi) ?_ ?_))))))
 ·rfl
 refine ⟨qT ?_, rfl⟩
 symm; rw [tailB, List.all_eq_true]
 intro j hj
 exact hp.2 j (by simp at hj; omega)
def rangeB (a b x : Int) : Bool := decide (a ≤ x ∧ x ≤ b)
theorem rword_ok (s : ByteArray) (a b : Int) : PF 71 [sv s, uv a, uv b] (bv (wordB (rangeB a b) s)) := by
 have hb : ∀ p : Int → Bool, wordB p s = (decide (s.size ≠ 0) && decide (s.size ≤ 16) && p (qcT s 0) && tailB s) := fun p => rfl
 refine qF Tryz.func71 E Tryz.ntmps71 zL fun c hL hQ hDD => (qd (qb (zX E (zK (qd (qd ?_)))))); refine qb (zX E (zA E (qc9 E qbG E) (zA E (qj E E E E) (zX E (qt 10 E (fun g10 => ?_) (fun g10 => ?_))))))
 ·try simp only[↓cqA,cqB]at g10
  refine zY E (zY E (zY E (zA E (qg E E E) (zX E (zY E (zY E (zY E (zY E (zA E (qg E E E) (zX E (zY E ?_)))))))))))
  refine zY E (zY E (zY E (zA E (qg E E E) (zK (qaN E (qd ?_)))))); refine qb (zX E (zK (qo (qm (zI hL (qh E qi) ?_ ?_)))))
  ·rfl
  refine ⟨qT ?_, rfl⟩
  symm; rw [hb]; simp only [Bool.and_eq_false_iff, decide_eq_false_iff_not, rangeB]; omega
 try simp only[↓cqA,cqB]at g10
 refine zZ E (qk (.inl E) E) (zZ E (qc9 E qbG E) (zZ E (qj E E E E) (zA E (qg E E E) (zX E (qt 15 E (fun g15 => ?_) (fun g15 => ?_))))))
 ·try simp only[↓cqA,cqB]at g15
  refine zY E (zY E (zY E (zY E (zA E (qg E E E) (zX E ?_)))))
  refine zY E (zY E (zY E (zY E (zA E (qg E E E) (zK (qaN E ?_)))))); refine qd (qb (zX E (zK (qo (qm (zI hL (qh E qi) ?_ ?_))))))
  ·rfl
  refine ⟨qT ?_, rfl⟩
  symm; rw [hb]; simp only [Bool.and_eq_false_iff, decide_eq_false_iff_not, rangeB]; omega
 try simp only[↓cqA,cqB]at g15
 refine zZ E (qk (.inl E) E) (zZ E (qdR E qbG E E zD (by omega)) (zZ E (qk (.inl E) E) (zZ E (qj E E E E) (zA E (qg E E E) (zX E (qt 21 E (fun g21 => ?_) (fun g21 => ?_)))))))
 ·try simp only[↓cqA,cqB]at g21
  refine zY E (zY E (zY E (zY E (zA E (qg E E E) (zK (qaN E ?_)))))); refine qd (qb (zX E (zK (qo (qm (zI hL (qh E qi) ?_ ?_))))))
  ·rfl
  refine ⟨qT ?_, rfl⟩
  symm; rw [hb]; simp only [Bool.and_eq_false_iff, decide_eq_false_iff_not, rangeB]; omega
 try simp only[↓cqA,cqB]at g21
 refine zZ E (qk (.inl E) E) (zZ E (qdR E qbG E E zD (by omega)) (zZ E (qk (.inl E) E) (zZ E (qj E E E E) (zA E (qg E E E) (zK (qq E (fun c0 => ?_) (fun c0 => ?_)))))))
 ·try simp only[↓cqA,cqB]at c0
  refine qd (qb (zX E (zK (qo (qm (zI hL (qh E qi) ?_ ?_))))))
  ·rfl
  refine ⟨qT ?_, rfl⟩
  symm; rw [hb]; simp only [Bool.and_eq_false_iff, decide_eq_false_iff_not, rangeB]; omega
 try simp only[↓cqA,cqB]at c0
 refine qr (qa (qd (qb (zX E (qE (avs := [_]) true E E E zD en_almagestref1_tail E E (rtail_ok _ (by omega)) E E (zX E (qc ?_))))))); refine qa (qo (zI hL (qh E qi) ?_ ?_))
 ·rfl
 refine ⟨qT ?_, rfl⟩
 have e1 : decide (s.size ≠ 0) = true := decide_eq_true (by omega)
 have e2 : decide (s.size ≤ 16) = true := decide_eq_true (by omega)
 have e3 : rangeB a b (qcT s 0) = true := decide_eq_true (by omega)
 rw [hb, e1, e2, e3]; simp
theorem rName_ok (s : ByteArray) : PF 28 [sv s] (bv (nameB s)) := by
 refine qF Tryz.func28 E Tryz.ntmps28 zL fun c hL hQ hDD => (qd (qb (zX E (zK (qd (qb ?_)))))); refine zX E (qE (avs := [_, _, _]) true E E E zD en_almagestref1_word E E (rword_ok _ _ _) E E (zX E (zK (qo (zI hL (qh E qi) ?_ ?_)))))
 ·rfl
 exact ⟨rfl, rfl⟩
theorem rVar_ok (s : ByteArray) : PF 220 [sv s] (bv (varB s)) := by
 refine qF Tryz.func220 E Tryz.ntmps220 zL fun c hL hQ hDD => (qd (qb (zX E (zK (qd (qb ?_)))))); refine zX E (qE (avs := [_, _, _]) true E E E zD en_almagestref1_word E E (rword_ok _ _ _) E E (zX E (zK (qo (zI hL (qh E qi) ?_ ?_)))))
 ·rfl
 exact ⟨rfl, rfl⟩
def qcV (f : Tm → Int) : Int → List Tm → Int
 | n, [] => n
 | n, a :: l => if n ≤ 24 then qcV f (n + f a) l else n
def qbt : Nat → Tm → Int
  | 0, _ => 25
  | d + 1, t =>
    if t.kind = 1 then (if varB t.name = true ∧ t.n = 0 ∧ t.args.length = 0 then 1 else 25)
    else if t.kind = 2 then (if t.name.size = 0 ∧ (-1073741824 ≤ t.n ∧ t.n ≤ 1073741824) ∧ t.args.length = 0 then 1 else 25)
    else if t.kind = 3 then (if nameB t.name = false ∨ t.n ≠ 0 ∨ 4 < t.args.length ∨ (0 < t.args.length ∧ d = 0) then 25 else qcV (qbt d) 1 t.args)
    else 25
theorem sizeL_ge (f : Tm → Int) (h : ∀ t, 0 ≤ f t) : ∀ (n : Int) (l : List Tm), n ≤ qcV f n l
  | n, [] => by simp [qcV]
  | n, a :: l => by
    simp only [qcV]
    split
    · have := sizeL_ge f h (n + f a) l
      have := h a; omega
    · omega
theorem sizeL_stop (f : Tm → Int) (n : Int) (l : List Tm) (h : ¬ n ≤ 24) : qcV f n l = n := by
 cases l with
 | nil => rfl
 | cons a l => simp [qcV, h]
theorem sizeL_le (f : Tm → Int) (B : Int) (hB : 0 ≤ B) : ∀ (n : Int) (l : List Tm), (∀ t, f t ≤ B) → n ≤ 24 + B → qcV f n l ≤ 24 + B
  | n, [], _, h0 => h0
  | n, a :: l, h, h0 => by
    simp only [qcV]
    split
    · exact sizeL_le f B hB _ l h (by have := h a; omega)
    · exact h0
theorem sizeS_ge : ∀ (d : Nat) (t : Tm), 1 ≤ qbt d t
  | 0, _ => by simp [qbt]
  | d + 1, t => by
    simp only [qbt]
    split
    · split <;> omega
    split
    · split <;> omega
    split
    · split
      · omega
      · have := sizeL_ge (qbt d) (fun t => by have := sizeS_ge d t; omega) 1 t.args; omega
    · omega
theorem sizeS_le : ∀ (d : Nat) (t : Tm), qbt d t ≤ 25 + 24 * d
  | 0, _ => by simp [qbt]
  | d + 1, t => by
    simp only [qbt]
    push_cast
    split
    · split <;> omega
    split
    · split <;> omega
    split
    · split
      · omega
      · have := sizeL_le (qbt d) (25 + 24 * d) (by omega) 1 t.args (fun t => sizeS_le d t) (by omega); omega
    · omega
theorem sizeL_take (f : Tm → Int) (n : Int) (l : List Tm) (k : Nat) (hk : k ≤ l.length) (h : ∀ j, j < k → qcV f n (l.take j) ≤ 24) : qcV f n l = qcV f (qcV f n (l.take k)) (l.drop k) := by
  induction k generalizing n l with
  | zero => simp [qcV]
  | succ k ih =>
    cases l with
    | nil => simp at hk
    | cons a l =>
      have h0 : n ≤ 24 := by have := h 0 (by omega); simpa [qcV] using this
      simp only [List.take_succ_cons, List.drop_succ_cons, qcV, if_pos h0]
      refine ih _ l (by simpa using hk) fun j hj => ?_
      have := h (j + 1) (by omega)
      simpa [qcV, h0] using this
theorem sizeL_snoc (f : Tm → Int) (n : Int) (l : List Tm) (a : Tm) (h : ∀ j, j ≤ l.length → qcV f n (l.take j) ≤ 24) : qcV f n (l ++ [a]) = qcV f n l + f a := by
 have h1 := sizeL_take f n (l ++ [a]) l.length (by simp) (fun j hj => by
  have := h j (by omega)
  rwa [List.take_append_of_le_length (by omega)])
 have h2 := h l.length (Nat.le_refl _)
 simp only [List.take_length] at h2
 simp only [List.take_left, List.drop_left] at h1
 rw [h1]
 simp [qcV, h2]
def SizeC (d : Nat) : Prop := ∀ (e : Int), e = d → ∀ (t : Tm), t.wf → PF 157 [tmA false t, iv e] (iv (qbt d t))
theorem rsize_ok : ∀ d : Nat, 1 ≤ d → d ≤ 5 → SizeC d := by
  intro d
  induction d with
  | zero => intro h; omega
  | succ d ih =>
    intro _ hd e he t ht
    have hlen := qaJ t.args
    have hal := ht.2.2.2.1
    refine qF Tryz.func157 E Tryz.ntmps157 zL fun c hL hQ hDD => (qd (qb (qy E E zD (qaa 2 E E E) E (zX E (zK (qd ?_)))))); refine qd (qb (zA E (qe E qar E) (zA E (ql E qU E E E E E) ?_)))
    refine zK (qv (qd (qb (zA E (qj E E E E) (zX E (qc ?_)))))); refine qa (qq E (fun c0 => ?_) (fun c0 => ?_))
    · try simp only[↓cqA,cqB]at c0
      refine qd (qb (zA E (qe E qav E) (zA E (ql E qaf E E E E E) (qE (avs := [_]) true E E E zD en_almagestref1_Var E E (rVar_ok _) E E (zX E (qt 14 E (fun g14 => ?_) (fun g14 => ?_)))))))
      · try simp only[↓cqA,cqB]at g14
        refine zZ E (qe E qbc E) (zZ E (ql E qU E E E E E) (zZ E (qj E E E E) (zA E (qg E E E) (zX E (qt 19 E (fun g19 => ?_) (fun g19 => ?_))))))
        · try simp only[↓cqA,cqB]at g19
          refine zZ E (qe E q8 E) (zZ E (ql E q7 E E E E E) (zZ E (qu E qI E) (zZ E (qj E E E E) (zA E (qg E E E) (zK (qq E (fun c1 => ?_) (fun c1 => ?_)))))))
          · try simp only[↓cqA,cqB]at c1
            refine qd (qb (zX E (zK (qo (qS (qm (zI hL (qh E qi) ?_ ?_)))))))
            · rfl
            refine ⟨qa2 ?_, rfl⟩
            rw [qbt]; repeat' split
            all_goals first | rfl | omega | exact hfin | (simp_all; done) | (simp_all; omega)
          try simp only[↓cqA,cqB]at c1
          refine qr (qP (qa (qd (qb (zX E (zK ?_)))))); refine qo (zI hL (qh E qi) ?_ ?_)
          · rfl
          refine ⟨qa2 ?_, rfl⟩
          rw [qbt]; repeat' split
          all_goals first | rfl | omega | exact hfin | (simp_all; done) | (simp_all; omega)
        try simp only[↓cqA,cqB]at g19
        refine zY E (zY E (zY E (zY E (zA E (qg E E E) (zK (qab E ?_))))))
        refine qr (qP (qa (qd (qb (zX E (zK ?_)))))); refine qo (zI hL (qh E qi) ?_ ?_)
        · rfl
        refine ⟨qa2 ?_, rfl⟩
        rw [qbt]; repeat' split
        all_goals first | rfl | omega | exact hfin | (simp_all; done) | (simp_all; omega)
      try simp only[↓cqA,cqB]at g14
      refine zY E (zY E (zY E (zA E (qg E E E) (zX E (zY E ?_)))))
      refine zY E (zY E (zY E (zA E (qg E E E) (zK (qab E (qr ?_)))))); refine qP (qa (qd (qb (zX E (zK (qo (zI hL (qh E qi) ?_ ?_)))))))
      · rfl
      refine ⟨qa2 ?_, rfl⟩
      rw [qbt]; repeat' split
      all_goals first | rfl | omega | exact hfin | (simp_all; done) | (simp_all; omega)
    try simp only[↓cqA,cqB]at c0
    refine qd (qb (zA E (qj E E E E) (zX E (zK (qq E (fun c2 => ?_) (fun c2 => ?_))))))
    · try simp only[↓cqA,cqB]at c2
      refine qd (qb (zA E (qe E qav E) (zA E (ql E qaf E E E E E) (zA E (qbV E E E E) (zX E (qt 30 E (fun g30 => ?_) (fun g30 => ?_)))))))
      · try simp only[↓cqA,cqB]at g30
        have g30 := size_zero.2 g30
        refine zZ E (qe E qbc E) (zZ E (ql E qU E E E E E) (zZ E (qY (avs := [_, _, _]) true E qbB E E (Between_ok _ _ _) (fun _ => rfl) E) (zA E (qg E E E) (zX E (qt 35 E (fun g35 => ?_) (fun g35 => ?_))))))
        · try simp only[↓cqA,cqB]at g35
          refine zZ E (qe E q8 E) (zZ E (ql E q7 E E E E E) (zZ E (qu E qI E) (zZ E (qj E E E E) (zA E (qg E E E) (zK (qq E (fun c3 => ?_) (fun c3 => ?_)))))))
          · try simp only[↓cqA,cqB]at c3
            refine qd (qb (zX E (zK (qo (qS (qm (zI hL (qh E qi) ?_ ?_)))))))
            · rfl
            refine ⟨qa2 ?_, rfl⟩
            rw [qbt]; repeat' split
            all_goals first | rfl | omega | exact hfin | (simp_all; done) | (simp_all; omega)
          try simp only[↓cqA,cqB]at c3
          refine qr (qP (qa (qd (qb (zX E (zK ?_)))))); refine qo (zI hL (qh E qi) ?_ ?_)
          · rfl
          refine ⟨qa2 ?_, rfl⟩
          rw [qbt]; repeat' split
          all_goals first | rfl | omega | exact hfin | (simp_all; done) | (simp_all; omega)
        try simp only[↓cqA,cqB]at g35
        refine zY E (zY E (zY E (zY E (zA E (qg E E E) (zK (qab E ?_))))))
        refine qr (qP (qa (qd (qb (zX E (zK ?_)))))); refine qo (zI hL (qh E qi) ?_ ?_)
        · rfl
        refine ⟨qa2 ?_, rfl⟩
        rw [qbt]; repeat' split
        all_goals first | rfl | omega | exact hfin | (simp_all; done) | (simp_all; omega)
      try simp only[↓cqA,cqB]at g30
      have g30 := mt size_zero.1 g30
      refine zY E (zY E (zY E (zA E (qg E E E) (zX E (zY E ?_)))))
      refine zY E (zY E (zY E (zA E (qg E E E) (zK (qab E (qr ?_)))))); refine qP (qa (qd (qb (zX E (zK (qo (zI hL (qh E qi) ?_ ?_)))))))
      · rfl
      refine ⟨qa2 ?_, rfl⟩
      rw [qbt]; repeat' split
      all_goals first | rfl | omega | exact hfin | (simp_all; done) | (simp_all; omega)
    try simp only[↓cqA,cqB]at c2
    refine qd (qb (zA E (qj E E E E) (zX E (zK (qq E (fun c4 => ?_) (fun c4 => ?_))))))
    · try simp only[↓cqA,cqB]at c4
      refine qd (qd (qb (zA E (qe E qav E) (zA E (ql E qaf E E E E E) (qE (avs := [_]) true E E E zD qdv E E (rName_ok _) E E (zA E (qal E E) (zX E ?_))))))); refine qt 47 E (fun g47 => ?_) (fun g47 => ?_)
      · try simp only[↓cqA,cqB]at g47
        refine zY E (zY E (zY E (zA E (qg E E E) (zX E (zY E (zY E (zY E (zY E (zA E (qg E E E) (zX E (zY E (zY E (zY E (zY E (zY E (qaE E E E zD E zD (qaE E E E zD E zD ?_)))))))))))))))))
        refine zY E (zA E (qg E E E) (zK (qaN E (qd (qb (zX E ?_)))))); refine zK (qo (qm (qS (qm (zI hL (qh E qi) ?_ ?_)))))
        · rfl
        refine ⟨qa2 ?_, rfl⟩
        rw [qbt]; repeat' split
        all_goals first | rfl | omega | exact hfin | (simp_all; done) | (simp_all; omega)
      try simp only[↓cqA,cqB]at g47
      refine zZ E (qe E qbc E) (zZ E (ql E qU E E E E E) (zZ E (qj E E E E) (zA E (qg E E E) (zX E (qt 52 E (fun g52 => ?_) (fun g52 => ?_))))))
      · try simp only[↓cqA,cqB]at g52
        refine zY E (zY E (zY E (zY E (zA E (qg E E E) (zX E (zY E (zY E (zY E (zY E (zY E (qaE E E E zD E zD ?_)))))))))))
        refine qaE E E E zD E zD (zY E (zA E (qg E E E) (zK (qaN E (qd (qb ?_)))))); refine zX E (zK (qo (qm (qS (qm (zI hL (qh E qi) ?_ ?_))))))
        · rfl
        refine ⟨qa2 ?_, rfl⟩
        rw [qbt]; repeat' split
        all_goals first | rfl | omega | exact hfin | (simp_all; done) | (simp_all; omega)
      try simp only[↓cqA,cqB]at g52
      refine zZ E (qe E q8 E) (zZ E (ql E q7 E E E E E) (zZ E (qu E qI E) (zZ E (qj E E E E) (zA E (qg E E E) (zX E (qt 58 E (fun g58 => ?_) (fun g58 => ?_)))))))
      · try simp only[↓cqA,cqB]at g58
        refine zY E (zY E (zY E (zY E (zY E (qaE E E E zD E zD ?_)))))
        refine qaE E E E zD E zD (zY E (zA E (qg E E E) (zK (qaN E (qd (qb ?_)))))); refine zX E (zK (qo (qm (qS (qm (zI hL (qh E qi) ?_ ?_))))))
        · rfl
        refine ⟨qa2 ?_, rfl⟩
        rw [qbt]; repeat' split
        all_goals first | rfl | omega | exact hfin | (simp_all; done) | (simp_all; omega)
      try simp only[↓cqA,cqB]at g58
      refine zZ E (qe E q8 E) (zZ E (ql E q7 E E E E E) (zZ E (qu E qI E) (zZ E (qj E E E E) (zZ E (qk (.inl E) E) (qt 63 E (fun g63 => ?_) (fun g63 => ?_))))))
      · try simp only[↓cqA,cqB]at g63
        refine zZ E (qk (.inl E) E) (zZ E (qj E E E E) (zZ E (qg E E E) (zA E (qg E E E) (zK (qq E (fun c5 => ?_) (fun c5 => ?_))))))
        · try simp only[↓cqA,cqB]at c5
          refine qd (qb (zX E (zK (qo (qm (qS (qm (zI hL (qh E qi) ?_ ?_))))))))
          · rfl
          refine ⟨qa2 ?_, rfl⟩
          rw [qbt]; repeat' split
          all_goals first | rfl | omega | exact hfin | (simp_all; done) | (simp_all; omega)
        try simp only[↓cqA,cqB]at c5
        refine qr (qa (qd (qb (zX E (zK (qd ?_)))))); refine qd (qb (zX E (zK (qv (q6 (t.args.length) (fun k => k ≤ t.args.length ∧ ∀ j, j < k → qcV (qbt d) 1 (t.args.take j) ≤ 24) (fun k => ⟨[(1, iv e), (2, .ptr 2 0), (5, iv (qcV (qbt d) 1 (t.args.take k))), (6, iv (k : Int))], [(2, .box (lift false (tmD t)))]⟩) (⟨by omega, fun j hj => absurd hj (by omega)⟩) ?_ (fun k hk hp => ?_))))))
        · exact zR hL (zC E (zC E (zC E (zC E SubT.nil)))) (SubO.cons (qR E (by rfl)) SubO.nil)
        have hw := sizeL_le (qbt d) (25 + 24 * d) (by omega) 1 (t.args.take k) (fun t => sizeS_le d t) (by omega)
        have hw0 := sizeL_ge (qbt d) (fun t => by have := sizeS_ge d t; omega) 1 (t.args.take k)
        refine qd (qd (qb (zX E (zA E (qe E q8 E) (zA E (ql E q7 E E E E E) (zA E (qu E qI E) (zA E (qj E E E E) ?_))))))); refine zX E (qt 73 E (fun g73 => ?_) (fun g73 => ?_))
        · try simp only[↓cqA,cqB]at g73
          obtain ⟨u, hu⟩ := qH (l := t.args) (k := k) (by omega)
          have huw := sizeS_le d u
          have huw0 := sizeS_ge d u
          refine zZ E (qk (.inl E) E) (zZ E (qj E E E E) (zA E (qg E E E) (zK (qq E (fun c6 => ?_) (fun c6 => ?_)))))
          · try simp only[↓cqA,cqB]at c6
            refine qr (qa (qd (qv (qb (zX E (zA E (qe E q8 E) (zA E (ql E q7 E E E E E) ?_))))))); refine zX E (zA E (qp E qI E E (by omega) (qbv hu)) (zA E (qC E qw E E) (zX E (zA E (qa0 E E E (by omega)) (qE (avs := [_, _]) true E E E zD qdt E E (ih (by omega) (by omega) _ (by omega) u (Tm.wfs_get ht.2.2.2.2 hu)) E E ?_)))))
            refine zA E (qJ E E E (by omega)) (zX E (qc (qP (qa (qb (zX E (zA E (qJ E E E (by omega)) ?_))))))); refine zX E (qc ?_)
            have hb := sizeL_snoc (qbt d) 1 (t.args.take k) u (fun j hj => by
              by_cases hjk : j < k
              · have := hp.2 j hjk; rwa [List.take_take, Nat.min_eq_left (by omega)]
              · rw [List.take_of_length_le (by simp; omega)]; omega)
            rw [← qac hu] at hb
            refine qa ?_; refine ⟨?_, ?_, ?_⟩
            · omega
            · refine ⟨by omega, fun j hj => ?_⟩
              by_cases hjk : j < k
              · exact hp.2 j hjk
              · rw [show j = k by omega]; omega
            exact zR hL (zC E (zC E (SubT.cons (qan E (by exact qL hb.symm)) (zC E SubT.nil)))) (SubO.cons (qR E (by rfl)) SubO.nil)
          try simp only[↓cqA,cqB]at c6
          have hfin : qcV (qbt d) 1 (t.args.take k) = qcV (qbt d) 1 t.args := ((sizeL_take (qbt d) _ _ k hp.1 hp.2).trans (sizeL_stop _ _ _ (by omega))).symm
          refine qQ (qn (qn (qX ?_))); refine qa (qd (qb (zX E (zX E (zK (qo ?_)))))); refine qS (qm (zI hL (qh E qi) ?_ ?_))
          · rfl
          refine ⟨qa2 ?_, rfl⟩
          rw [qbt]; repeat' split
          all_goals first | rfl | omega | exact hfin | (simp_all; done) | (simp_all; omega)
        try simp only[↓cqA,cqB]at g73
        have hfin : qcV (qbt d) 1 (t.args.take k) = qcV (qbt d) 1 t.args := by rw [List.take_of_length_le (by omega)]
        refine zY E (zY E (zA E (qg E E E) (zK (qab E (qQ (qn (qn (qX ?_)))))))); refine qa (qd (qb (zX E (zX E (zK (qo (qS (qm (zI hL (qh E qi) ?_ ?_)))))))))
        · rfl
        refine ⟨qa2 ?_, rfl⟩
        rw [qbt]; repeat' split
        all_goals first | rfl | omega | exact hfin | (simp_all; done) | (simp_all; omega)
      try simp only[↓cqA,cqB]at g63
      refine zY E (zY E (zZ E (qg E E E) (zA E (qg E E E) (zK (qab E (qr ?_)))))); refine qa ?_
      refine qd (qb (zX E (zK (qd (qd (qb ?_)))))); refine zX E (zK (qv (q6 (t.args.length) (fun k => k ≤ t.args.length ∧ ∀ j, j < k → qcV (qbt d) 1 (t.args.take j) ≤ 24) (fun k => ⟨[(1, iv e), (2, .ptr 2 0), (5, iv (qcV (qbt d) 1 (t.args.take k))), (6, iv (k : Int))], [(2, .box (lift false (tmD t)))]⟩) (⟨by omega, fun j hj => absurd hj (by omega)⟩) ?_ (fun k hk hp => ?_))))
      · exact zR hL (zC E (zC E (zC E (zC E SubT.nil)))) (SubO.cons (qR E (by rfl)) SubO.nil)
      have hw := sizeL_le (qbt d) (25 + 24 * d) (by omega) 1 (t.args.take k) (fun t => sizeS_le d t) (by omega)
      have hw0 := sizeL_ge (qbt d) (fun t => by have := sizeS_ge d t; omega) 1 (t.args.take k)
      refine qd (qd (qb (zX E (zA E (qe E q8 E) (zA E (ql E q7 E E E E E) (zA E (qu E qI E) (zA E (qj E E E E) ?_))))))); refine zX E (qt 73 E (fun g73 => ?_) (fun g73 => ?_))
      · try simp only[↓cqA,cqB]at g73
        obtain ⟨u, hu⟩ := qH (l := t.args) (k := k) (by omega)
        have huw := sizeS_le d u
        have huw0 := sizeS_ge d u
        refine zZ E (qk (.inl E) E) (zZ E (qj E E E E) (zA E (qg E E E) (zK (qq E (fun c6 => ?_) (fun c6 => ?_)))))
        · try simp only[↓cqA,cqB]at c6
          refine qr (qa (qd (qv (qb (zX E (zA E (qe E q8 E) (zA E (ql E q7 E E E E E) ?_))))))); refine zX E (zA E (qp E qI E E (by omega) (qbv hu)) (zA E (qC E qw E E) (zX E (zA E (qa0 E E E (by omega)) (qE (avs := [_, _]) true E E E zD qdt E E (ih (by omega) (by omega) _ (by omega) u (Tm.wfs_get ht.2.2.2.2 hu)) E E ?_)))))
          refine zA E (qJ E E E (by omega)) (zX E (qc (qP (qa (qb (zX E (zA E (qJ E E E (by omega)) ?_))))))); refine zX E (qc ?_)
          have hb := sizeL_snoc (qbt d) 1 (t.args.take k) u (fun j hj => by
            by_cases hjk : j < k
            · have := hp.2 j hjk; rwa [List.take_take, Nat.min_eq_left (by omega)]
            · rw [List.take_of_length_le (by simp; omega)]; omega)
          rw [← qac hu] at hb
          refine qa ?_; refine ⟨?_, ?_, ?_⟩
          · omega
          · refine ⟨by omega, fun j hj => ?_⟩
            by_cases hjk : j < k
            · exact hp.2 j hjk
            · rw [show j = k by omega]; omega
          exact zR hL (zC E (zC E (SubT.cons (qan E (by exact qL hb.symm)) (zC E SubT.nil)))) (SubO.cons (qR E (by rfl)) SubO.nil)
        try simp only[↓cqA,cqB]at c6
        have hfin : qcV (qbt d) 1 (t.args.take k) = qcV (qbt d) 1 t.args := ((sizeL_take (qbt d) _ _ k hp.1 hp.2).trans (sizeL_stop _ _ _ (by omega))).symm
        refine qQ (qn (qn (qX ?_))); refine qa (qd (qb (zX E (zX E (zK (qo ?_)))))); refine qS (qm (zI hL (qh E qi) ?_ ?_))
        · rfl
        refine ⟨qa2 ?_, rfl⟩
        rw [qbt]; repeat' split
        all_goals first | rfl | omega | exact hfin | (simp_all; done) | (simp_all; omega)
      try simp only[↓cqA,cqB]at g73
      have hfin : qcV (qbt d) 1 (t.args.take k) = qcV (qbt d) 1 t.args := by rw [List.take_of_length_le (by omega)]
      refine zY E (zY E (zA E (qg E E E) (zK (qab E (qQ (qn (qn (qX ?_)))))))); refine qa (qd (qb (zX E (zX E (zK (qo (qS (qm (zI hL (qh E qi) ?_ ?_)))))))))
      · rfl
      refine ⟨qa2 ?_, rfl⟩
      rw [qbt]; repeat' split
      all_goals first | rfl | omega | exact hfin | (simp_all; done) | (simp_all; omega)
    try simp only[↓cqA,cqB]at c4
    refine qr (qP (qa (qd (qb (zX E (zK ?_)))))); refine qo (zI hL (qh E qi) ?_ ?_)
    · rfl
    refine ⟨qa2 ?_, rfl⟩
    rw [qbt]; repeat' split
    all_goals first | rfl | omega | exact hfin | (simp_all; done) | (simp_all; omega)
end Go.Proofs.YtpgceiijoedppaaGreat
