/- Part 14 of the proof: Je, Jf, Srt, Jg, Mj, Nc. -/
import Derived.Test.YtpgceiijoedppaaGreatB13
import Derived.Shelf.SlSortCmp.NoneTotal
import Derived.Shelf.SlGeneric
import Derived.Ground.SlsfProg
import Derived.Test.YtpgceiijoedppaaGreatProg
set_option linter.unusedVariables false
set_option linter.unusedSimpArgs false
set_option maxRecDepth 8000
namespace Go.Proofs.YtpgceiijoedppaaGreat
open Go
theorem qdl {a b : Ft} (ha : factB a = true) (hb : factB b = true) : sameId a b = eqF a b := by
 rw [Bool.eq_iff_iff, ← cmpF_zero (qdO ha).2.2, cmpF_eq (qdO ha).2.2]
 exact ⟨sameId_eq ha hb, fun e => by rw [e, sameId_self]⟩
theorem step_fact {l : List Kp} {j : Nat} {x : Kp} (h : stepL l j = true) (hx : l[j]? = some x) : factB x.f = true := by
 rw [qda hx] at h
 simp only [Bool.and_eq_true] at h
 exact h.1.1.1
theorem rFacts_ok (l : List Kp) (hll : l.length ≤ 1000000000) (hw : ∀ k ∈ l, k.wf) : PF 20 [.dat false 7 (kpDs l)] (bv (listB l)) := by
  have hlen := kpDs_length l
  have hbad : ∀ j, j < l.length → stepL l j = false → listB l = false := fun j hj h => by
    have : (List.range l.length).all (stepL l) = false := List.all_eq_false.2 ⟨j, by simpa using hj, by simp [h]⟩
    rw [listB, this]; simp
  refine qF Tryz.func20 E Tryz.ntmps20 zL fun c hL hQ hDD => (qd (qb (zX E (zK (qd (qd ?_)))))); refine qb (zX E (qc (qa (qv (q6 (301) (fun k => k ≤ l.length ∧ k ≤ 301 ∧ ∀ j, j < k → stepL l j = true) (fun k => ⟨[(0, .dat false 7 (kpDs l)), (3, iv (k : Int))], []⟩) (⟨by omega, by omega, fun j hj => absurd hj (by omega)⟩) ?_ (fun k hk hp => ?_))))))
  · exact zR hL (zC E (zC E SubT.nil)) SubO.nil
  refine qd (qd (qb (zX E (zX E (zA E (qu E qaq E) (zA E (qj E E E E) (zX E ?_))))))); refine qt 9 E (fun g9 => ?_) (fun g9 => ?_)
  · try simp only[↓cqA,cqB]at g9
    refine zZ E (qk (.inl E) E) (zZ E (qj E E E E) (zA E (qg E E E) (zK (qq E (fun c0 => ?_) (fun c0 => ?_)))))
    · try simp only[↓cqA,cqB]at c0
      obtain ⟨u, hu⟩ := qH (l := l) (k := k) (by omega)
      have huw := hw u (List.mem_of_getElem? hu)
      have huf := huw.2
      obtain ⟨y, hy⟩ := qH (l := l) (k := k - 1) (by omega)
      have hy2 : l[((k : Int) - 1).toNat]? = some y := by rw [show ((k : Int) - 1).toNat = k - 1 by omega]; exact hy
      refine qr (qa (qd (qv (qd (qd ?_)))))
      rcases Bool.eq_false_or_eq_true (factB u.f) with l20 | l20
      · have m20 := l20
        try simp only[↓cqA,cqB]at m20
        rcases Bool.eq_false_or_eq_true (decide (u.seq < 0)) with l28 | l28
        · have m28 := l28
          try simp only[↓cqA,cqB]at m28
          refine qZ 30 mixed E E E E (qf E zD (.run E (qk (.inl E) E)) (qf E zD (.run E (qk (.inl E) E)) (qf E zD (.run E (qp E qaq E E (by omega) (qbO hu))) (qf E zD (.run E (qA E qbs E)) (qf E zD (.run E (qC E qbg E E)) ?_)))))
          refine qf E zD (.run E (qY (avs := [_]) true E qbY E E (by have hh := rFact_ok u.f huf; rw [l20] at hh; exact hh) (fun _ => rfl) E)) ?_; refine qf E zD (.run E (qal E E)) ?_; refine qf E zD (.run E (qk (.inl E) E)) ?_; refine qf E zD (.want E E E zD (qk (.inl E) E)) ?_; refine qf E zD (.want E E E zD (qk (.inl E) E)) (qf E zD (.want E E E zD (qp E qaq E E (by omega) (qbO hu))) (qf E zD (.want E E E zD (qA E qb3 E)) (qf E zD (.want E E E zD (qN E qU E)) (qf E zD (.want E E E zD (qj (r := .bool true) E E E (congrArg (fun b => some (Value.bool b)) l28))) (qf E zD (.run E (qg E E E)) (qf E zD (.run E (qk (.inl E) E)) (qf E zD (.skip E E E zD zD) ?_)))))))
          refine qf E zD (.skip E E E zD zD) (qf E zD (.skip E E E zD zD) (qf E zD (.skipu E E E zD) (qf E zD (.skipu E E E zD) (qf E zD (.skipu E E E zD) (qf E zD (.skipu E E E zD) (qf E zD (.skipu E E E zD) (qf E zD (.skipu E E E zD) (qf E zD (.skipu E E E zD) (qf E zD (.skipu E E E zD) ?_)))))))))
          refine qf E zD (.skipu E E E zD) (qf E zD (.skipu E E E zD) (qf E zD (.skipu E E E zD) (qak ⟨rfl, rfl, ?_⟩))); refine qaE E E E zD E zD (zY E ?_)
          refine zA E (qg E E E) (zK (qaN E (qd (qb (zX E (qc ?_)))))); refine qa (qo (qm (qS (qm (qm (qS (qm (zI hL (qh E qi) ?_ ?_))))))))
          · rfl
          refine ⟨qT ?_, rfl⟩
          first
            | (symm; exact hbad k (by omega) (by
                rw [qda hu, hy]
                first
                  | (rw [l20]; rfl)
                  | (simp; omega)
                  | (have h5 : ((l.take k).any fun z => sameId z.f u.f) = true := List.any_eq_true.2 ⟨v, List.mem_of_getElem? (i := i) (by rw [List.getElem?_take, if_pos (by omega)]; exact hv), by rw [qdl hvf l20]; exact c3⟩
                     rw [h5]; simp)))
            | (rw [listB, List.all_eq_true.2 (fun j hj => by
                 have hj := List.mem_range.1 hj
                 exact hp.2.2 j (by omega))]; simp; omega)
            | (rw [listB, decide_eq_false (show ¬ l.length ≤ 300 by omega)]; simp; omega)
            | trace_state
        have m28 := l28
        try simp only[↓cqA,cqB]at m28
        rcases Bool.eq_false_or_eq_true (decide ((k : Int) > 0)) with l32 | l32
        · have m32 := l32
          try simp only[↓cqA,cqB]at m32
          rcases Bool.eq_false_or_eq_true (decide (y.seq ≥ u.seq)) with l45 | l45
          · have m45 := l45
            try simp only[↓cqA,cqB]at m45
            refine qZ 30 mixed E E E E (qf E zD (.run E (qk (.inl E) E)) (qf E zD (.run E (qk (.inl E) E)) (qf E zD (.run E (qp E qaq E E (by omega) (qbO hu))) (qf E zD (.run E (qA E qbs E)) (qf E zD (.run E (qC E qbg E E)) ?_)))))
            refine qf E zD (.run E (qY (avs := [_]) true E qbY E E (by have hh := rFact_ok u.f huf; rw [l20] at hh; exact hh) (fun _ => rfl) E)) ?_; refine qf E zD (.run E (qal E E)) ?_; refine qf E zD (.run E (qk (.inl E) E)) ?_; refine qf E zD (.want E E E zD (qk (.inl E) E)) ?_; refine qf E zD (.want E E E zD (qk (.inl E) E)) (qf E zD (.want E E E zD (qp E qaq E E (by omega) (qbO hu))) (qf E zD (.want E E E zD (qA E qb3 E)) (qf E zD (.want E E E zD (qN E qU E)) (qf E zD (.want E E E zD (qj (r := .bool false) E E E (congrArg (fun b => some (Value.bool b)) l28))) (qf E zD (.run E (qg E E E)) (qf E zD (.run E (qk (.inl E) E)) ?_))))))
            refine qf E zD (.want E E E zD (qk (.inl E) E)) (qf E zD (.want E E E zD (qj (r := .bool true) E E E (congrArg (fun b => some (Value.bool b)) l32))) (qf E zD (.want E E E zD (qk (.inl E) E)) (qf E zD (.want E E E zD (qk (.inl E) E)) (qf E zD (.want E E E zD (qk (.inl E) E)) (qf E zD (.want E E E zD (qa0 E E E (by omega))) (qf E zD (.want E E E zD (qp E qaq E E (by omega) (qbO hy2))) (qf E zD (.want E E E zD (qA E qb3 E)) ?_)))))))
            refine qf E zD (.want E E E zD (qN E qU E)) (qf E zD (.want E E E zD (qk (.inl E) E)) (qf E zD (.want E E E zD (qk (.inl E) E)) (qf E zD (.want E E E zD (qp E qaq E E (by omega) (qbO hu))) (qf E zD (.want E E E zD (qA E qb3 E)) ?_))))
            refine qf E zD (.want E E E zD (qN E qU E)) (qak ⟨rfl, rfl, ?_⟩); refine zZ E (qj (r := .bool true) E E E (congrArg (fun b => some (Value.bool b)) l45)) (zZ E (qg E E E) (zA E (qg E E E) (zK (qaN E (qd (qb (zX E (zK (qo (qm (qS (qm (qm (qS (qm (zI hL (qh E qi) ?_ ?_))))))))))))))))
            · rfl
            refine ⟨qT ?_, rfl⟩
            first
              | (symm; exact hbad k (by omega) (by
                  rw [qda hu, hy]
                  first
                    | (rw [l20]; rfl)
                    | (simp; omega)
                    | (have h5 : ((l.take k).any fun z => sameId z.f u.f) = true := List.any_eq_true.2 ⟨v, List.mem_of_getElem? (i := i) (by rw [List.getElem?_take, if_pos (by omega)]; exact hv), by rw [qdl hvf l20]; exact c3⟩
                       rw [h5]; simp)))
              | (rw [listB, List.all_eq_true.2 (fun j hj => by
                   have hj := List.mem_range.1 hj
                   exact hp.2.2 j (by omega))]; simp; omega)
              | (rw [listB, decide_eq_false (show ¬ l.length ≤ 300 by omega)]; simp; omega)
              | trace_state
          have m45 := l45
          try simp only[↓cqA,cqB]at m45
          refine qZ 30 mixed E E E E (qf E zD (.run E (qk (.inl E) E)) (qf E zD (.run E (qk (.inl E) E)) (qf E zD (.run E (qp E qaq E E (by omega) (qbO hu))) (qf E zD (.run E (qA E qbs E)) (qf E zD (.run E (qC E qbg E E)) ?_)))))
          refine qf E zD (.run E (qY (avs := [_]) true E qbY E E (by have hh := rFact_ok u.f huf; rw [l20] at hh; exact hh) (fun _ => rfl) E)) ?_; refine qf E zD (.run E (qal E E)) ?_; refine qf E zD (.run E (qk (.inl E) E)) ?_; refine qf E zD (.want E E E zD (qk (.inl E) E)) ?_; refine qf E zD (.want E E E zD (qk (.inl E) E)) (qf E zD (.want E E E zD (qp E qaq E E (by omega) (qbO hu))) (qf E zD (.want E E E zD (qA E qb3 E)) (qf E zD (.want E E E zD (qN E qU E)) (qf E zD (.want E E E zD (qj (r := .bool false) E E E (congrArg (fun b => some (Value.bool b)) l28))) (qf E zD (.run E (qg E E E)) (qf E zD (.run E (qk (.inl E) E)) ?_))))))
          refine qf E zD (.want E E E zD (qk (.inl E) E)) (qf E zD (.want E E E zD (qj (r := .bool true) E E E (congrArg (fun b => some (Value.bool b)) l32))) (qf E zD (.want E E E zD (qk (.inl E) E)) (qf E zD (.want E E E zD (qk (.inl E) E)) (qf E zD (.want E E E zD (qk (.inl E) E)) (qf E zD (.want E E E zD (qa0 E E E (by omega))) (qf E zD (.want E E E zD (qp E qaq E E (by omega) (qbO hy2))) (qf E zD (.want E E E zD (qA E qb3 E)) ?_)))))))
          refine qf E zD (.want E E E zD (qN E qU E)) (qf E zD (.want E E E zD (qk (.inl E) E)) (qf E zD (.want E E E zD (qk (.inl E) E)) (qf E zD (.want E E E zD (qp E qaq E E (by omega) (qbO hu))) (qf E zD (.want E E E zD (qA E qb3 E)) ?_))))
          refine qf E zD (.want E E E zD (qN E qU E)) (qak ⟨rfl, rfl, ?_⟩); refine zZ E (qj (r := .bool false) E E E (congrArg (fun b => some (Value.bool b)) l45)) (zZ E (qg E E E) (zA E (qg E E E) (zK ?_)))
          refine qab E (qr (qa (qd (qb (zX E (zK ?_)))))); refine qv (q6 (k) (fun i => i ≤ k ∧ ∀ (j : Nat) (x : Kp), j < i → l[j]? = some x → eqF x.f u.f = false) (fun i => ⟨[(0, .dat false 7 (kpDs l)), (3, iv (k : Int)), (4, iv (i : Int))], []⟩) (⟨by omega, fun j x hj => absurd hj (by omega)⟩) ?_ (fun i hi hpi => ?_))
          · exact zR hL (zC E (zC E (zC E SubT.nil))) SubO.nil
          refine qd (qd (qb (zX E (zX E (zA E (qj E E E E) (zK ?_)))))); refine qq E (fun c2 => ?_) (fun c2 => ?_)
          · try simp only[↓cqA,cqB]at c2
            obtain ⟨v, hv⟩ := qH (l := l) (k := i) (by omega)
            have hvw := (hw v (List.mem_of_getElem? hv)).2
            have hvf := step_fact (hp.2.2 i (by omega)) hv
            have hvd := (qdO hvf).2.2
            refine qr (qa (qd (qv (qd (qZ 10 mixed E E E E (qf E zD (.run E (qk (.inl E) E)) (qf E zD (.run E (qk (.inl E) E)) ?_))))))); refine qf E zD (.run E (qp E qaq E E (by omega) (qbO hv))) (qf E zD (.run E (qA E qbs E)) (qf E zD (.run E (qC E qbg E E)) (qf E zD (.run E (qk (.inl E) E)) (qf E zD (.run E (qk (.inl E) E)) (qf E zD (.run E (qp E qaq E E (by omega) (qbO hu))) (qf E zD (.run E (qA E qbs E)) (qf E zD (.run E (qC E qbg E E)) ?_)))))))
            refine qak ⟨rfl, rfl, ?_⟩; refine qE (avs := [_, _]) true E E E zD en_almagestref0_EqFact E E (EqFact_ok v.f u.f hvd hvw huf) E E (zK (qq E (fun c3 => ?_) (fun c3 => ?_)))
            · try simp only[↓cqA,cqB]at c3
              refine qd (qb (zX E (zK (qo (qS (qm (qm (qS (qS (qm (qm (qS (qm (zI hL (qh E qi) ?_ ?_))))))))))))))
              · rfl
              refine ⟨qT ?_, rfl⟩
              first
                | (symm; exact hbad k (by omega) (by
                    rw [qda hu, hy]
                    first
                      | (rw [l20]; rfl)
                      | (simp; omega)
                      | (have h5 : ((l.take k).any fun z => sameId z.f u.f) = true := List.any_eq_true.2 ⟨v, List.mem_of_getElem? (i := i) (by rw [List.getElem?_take, if_pos (by omega)]; exact hv), by rw [qdl hvf l20]; exact c3⟩
                         rw [h5]; simp)))
                | (rw [listB, List.all_eq_true.2 (fun j hj => by
                     have hj := List.mem_range.1 hj
                     exact hp.2.2 j (by omega))]; simp; omega)
                | (rw [listB, decide_eq_false (show ¬ l.length ≤ 300 by omega)]; simp; omega)
                | trace_state
            try simp only[↓cqA,cqB]at c3
            refine qr (qP (qa (qb (zX E (zA E (qJ E E E (by omega)) (zX E (qc ?_))))))); refine qa ?_; refine ⟨?_, ?_, ?_⟩
            · omega
            · refine ⟨by omega, fun j x hj hx => ?_⟩
              by_cases hji : j < i
              · exact hpi.2 j x hji hx
              · rw [show j = i by omega, hv] at hx; cases hx; exact c3
            exact zR hL (zC E (zC E (zC E SubT.nil))) SubO.nil
          try simp only[↓cqA,cqB]at c2
          refine qQ (qn (qn (qX ?_))); refine qP (qa (qb (zX E (zA E (qJ E E E (by omega)) (zX E (zK ?_)))))); refine ⟨?_, ?_, ?_⟩
          · omega
          · refine ⟨by omega, by omega, fun j hj => ?_⟩
            by_cases hjk : j < k
            · exact hp.2.2 j hjk
            · rw [show j = k by omega, qda hu]
              have hany : ((l.take k).any fun z => sameId z.f u.f) = false := List.any_eq_false.2 fun z hz => by
                obtain ⟨q, hq⟩ := List.getElem?_of_mem hz
                rw [List.getElem?_take] at hq
                split at hq
                · rename_i hqk
                  rw [qdl (step_fact (hp.2.2 q hqk) hq) l20]
                  simp [hpi.2 q z (by omega) hq]
                · cases hq
              rw [hany, l20, hy]
              simp; omega
          exact zR hL (zC E (zC E SubT.nil)) SubO.nil
        have m32 := l32
        try simp only[↓cqA,cqB]at m32
        refine qZ 30 mixed E E E E (qf E zD (.run E (qk (.inl E) E)) (qf E zD (.run E (qk (.inl E) E)) (qf E zD (.run E (qp E qaq E E (by omega) (qbO hu))) (qf E zD (.run E (qA E qbs E)) (qf E zD (.run E (qC E qbg E E)) ?_)))))
        refine qf E zD (.run E (qY (avs := [_]) true E qbY E E (by have hh := rFact_ok u.f huf; rw [l20] at hh; exact hh) (fun _ => rfl) E)) ?_; refine qf E zD (.run E (qal E E)) ?_; refine qf E zD (.run E (qk (.inl E) E)) ?_; refine qf E zD (.want E E E zD (qk (.inl E) E)) ?_; refine qf E zD (.want E E E zD (qk (.inl E) E)) (qf E zD (.want E E E zD (qp E qaq E E (by omega) (qbO hu))) (qf E zD (.want E E E zD (qA E qb3 E)) (qf E zD (.want E E E zD (qN E qU E)) (qf E zD (.want E E E zD (qj (r := .bool false) E E E (congrArg (fun b => some (Value.bool b)) l28))) (qf E zD (.run E (qg E E E)) (qf E zD (.run E (qk (.inl E) E)) (qf E zD (.want E E E zD (qk (.inl E) E)) ?_)))))))
        refine qf E zD (.want E E E zD (qj (r := .bool false) E E E (congrArg (fun b => some (Value.bool b)) l32))) (qf E zD (.want E E E zD (qk (.inl E) E)) (qf E zD (.skip E E E zD zD) (qf E zD (.skip E E E zD zD) (qf E zD (.skip E E E zD zD) (qf E zD (.skip E E E zD zD) (qf E zD (.skip E E E zD zD) (qf E zD (.skip E E E zD zD) (qf E zD (.skip E E E zD zD) (qf E zD (.skip E E E zD zD) (qf E zD (.skip E E E zD zD) ?_))))))))))
        refine qf E zD (.skip E E E zD zD) (qf E zD (.skip E E E zD zD) (qak ⟨rfl, rfl, ?_⟩)); refine zY E (zZ E (qg E E E) ?_)
        refine zA E (qg E E E) (zK (qab E (qr (qa (qd (qb ?_)))))); refine zX E (zK (qv (q6 (k) (fun i => i ≤ k ∧ ∀ (j : Nat) (x : Kp), j < i → l[j]? = some x → eqF x.f u.f = false) (fun i => ⟨[(0, .dat false 7 (kpDs l)), (3, iv (k : Int)), (4, iv (i : Int))], []⟩) (⟨by omega, fun j x hj => absurd hj (by omega)⟩) ?_ (fun i hi hpi => ?_))))
        · exact zR hL (zC E (zC E (zC E SubT.nil))) SubO.nil
        refine qd (qd (qb (zX E (zX E (zA E (qj E E E E) (zK ?_)))))); refine qq E (fun c2 => ?_) (fun c2 => ?_)
        · try simp only[↓cqA,cqB]at c2
          obtain ⟨v, hv⟩ := qH (l := l) (k := i) (by omega)
          have hvw := (hw v (List.mem_of_getElem? hv)).2
          have hvf := step_fact (hp.2.2 i (by omega)) hv
          have hvd := (qdO hvf).2.2
          refine qr (qa (qd (qv (qd (qZ 10 mixed E E E E (qf E zD (.run E (qk (.inl E) E)) (qf E zD (.run E (qk (.inl E) E)) ?_))))))); refine qf E zD (.run E (qp E qaq E E (by omega) (qbO hv))) (qf E zD (.run E (qA E qbs E)) (qf E zD (.run E (qC E qbg E E)) (qf E zD (.run E (qk (.inl E) E)) (qf E zD (.run E (qk (.inl E) E)) (qf E zD (.run E (qp E qaq E E (by omega) (qbO hu))) (qf E zD (.run E (qA E qbs E)) (qf E zD (.run E (qC E qbg E E)) ?_)))))))
          refine qak ⟨rfl, rfl, ?_⟩; refine qE (avs := [_, _]) true E E E zD en_almagestref0_EqFact E E (EqFact_ok v.f u.f hvd hvw huf) E E (zK (qq E (fun c3 => ?_) (fun c3 => ?_)))
          · try simp only[↓cqA,cqB]at c3
            refine qd (qb (zX E (zK (qo (qS (qm (qm (qS (qS (qm (qm (qS (qm (zI hL (qh E qi) ?_ ?_))))))))))))))
            · rfl
            refine ⟨qT ?_, rfl⟩
            first
              | (symm; exact hbad k (by omega) (by
                  rw [qda hu, hy]
                  first
                    | (rw [l20]; rfl)
                    | (simp; omega)
                    | (have h5 : ((l.take k).any fun z => sameId z.f u.f) = true := List.any_eq_true.2 ⟨v, List.mem_of_getElem? (i := i) (by rw [List.getElem?_take, if_pos (by omega)]; exact hv), by rw [qdl hvf l20]; exact c3⟩
                       rw [h5]; simp)))
              | (rw [listB, List.all_eq_true.2 (fun j hj => by
                   have hj := List.mem_range.1 hj
                   exact hp.2.2 j (by omega))]; simp; omega)
              | (rw [listB, decide_eq_false (show ¬ l.length ≤ 300 by omega)]; simp; omega)
              | trace_state
          try simp only[↓cqA,cqB]at c3
          refine qr (qP (qa (qb (zX E (zA E (qJ E E E (by omega)) (zX E (qc ?_))))))); refine qa ?_; refine ⟨?_, ?_, ?_⟩
          · omega
          · refine ⟨by omega, fun j x hj hx => ?_⟩
            by_cases hji : j < i
            · exact hpi.2 j x hji hx
            · rw [show j = i by omega, hv] at hx; cases hx; exact c3
          exact zR hL (zC E (zC E (zC E SubT.nil))) SubO.nil
        try simp only[↓cqA,cqB]at c2
        refine qQ (qn (qn (qX ?_))); refine qP (qa (qb (zX E (zA E (qJ E E E (by omega)) (zX E (zK ?_)))))); refine ⟨?_, ?_, ?_⟩
        · omega
        · refine ⟨by omega, by omega, fun j hj => ?_⟩
          by_cases hjk : j < k
          · exact hp.2.2 j hjk
          · rw [show j = k by omega, qda hu]
            have hany : ((l.take k).any fun z => sameId z.f u.f) = false := List.any_eq_false.2 fun z hz => by
              obtain ⟨q, hq⟩ := List.getElem?_of_mem hz
              rw [List.getElem?_take] at hq
              split at hq
              · rename_i hqk
                rw [qdl (step_fact (hp.2.2 q hqk) hq) l20]
                simp [hpi.2 q z (by omega) hq]
              · cases hq
            rw [hany, l20, hy]
            simp; omega
        exact zR hL (zC E (zC E SubT.nil)) SubO.nil
      have m20 := l20
      try simp only[↓cqA,cqB]at m20
      refine qZ 30 mixed E E E E (qf E zD (.run E (qk (.inl E) E)) (qf E zD (.run E (qk (.inl E) E)) (qf E zD (.run E (qp E qaq E E (by omega) (qbO hu))) (qf E zD (.run E (qA E qbs E)) (qf E zD (.run E (qC E qbg E E)) ?_)))))
      refine qf E zD (.run E (qY (avs := [_]) true E qbY E E (by have hh := rFact_ok u.f huf; rw [l20] at hh; exact hh) (fun _ => rfl) E)) ?_; refine qf E zD (.run E (qal E E)) ?_; refine qf E zD (.run E (qk (.inl E) E)) (qf E zD (.skip E E E zD zD) (qf E zD (.skip E E E zD zD) (qf E zD (.skip E E E zD zD) (qf E zD (.skip E E E zD zD) (qf E zD (.skip E E E zD zD) (qf E zD (.skip E E E zD zD) (qf E zD (.run E (qg E E E)) (qf E zD (.run E (qk (.inl E) E)) (qf E zD (.skip E E E zD zD) (qf E zD (.skip E E E zD zD) ?_))))))))))
      refine qf E zD (.skip E E E zD zD) (qf E zD (.skipu E E E zD) (qf E zD (.skipu E E E zD) (qf E zD (.skipu E E E zD) (qf E zD (.skipu E E E zD) (qf E zD (.skipu E E E zD) (qf E zD (.skipu E E E zD) (qf E zD (.skipu E E E zD) (qf E zD (.skipu E E E zD) (qf E zD (.skipu E E E zD) ?_)))))))))
      refine qf E zD (.skipu E E E zD) (qf E zD (.skipu E E E zD) (qak ⟨rfl, rfl, ?_⟩)); refine qaE E E E zD E zD (zY E (zA E (qg E E E) (qc ?_)))
      refine qa (qaN E (qd (qb (zX E (zK (qo ?_)))))); refine qm (qS (qm (qm (qS (qm (zI hL (qh E qi) ?_ ?_))))))
      · rfl
      refine ⟨qT ?_, rfl⟩
      first
        | (symm; exact hbad k (by omega) (by
            rw [qda hu, hy]
            first
              | (rw [l20]; rfl)
              | (simp; omega)
              | (have h5 : ((l.take k).any fun z => sameId z.f u.f) = true := List.any_eq_true.2 ⟨v, List.mem_of_getElem? (i := i) (by rw [List.getElem?_take, if_pos (by omega)]; exact hv), by rw [qdl hvf l20]; exact c3⟩
                 rw [h5]; simp)))
        | (rw [listB, List.all_eq_true.2 (fun j hj => by
             have hj := List.mem_range.1 hj
             exact hp.2.2 j (by omega))]; simp; omega)
        | (rw [listB, decide_eq_false (show ¬ l.length ≤ 300 by omega)]; simp; omega)
        | trace_state
    try simp only[↓cqA,cqB]at c0
    refine qQ (qn (qn (qX ?_))); refine qa (qd (qb (zX E (zA E (qu E qaq E) (zA E (qj E E E E) (zX E (qc ?_))))))); refine qa (qo (zI hL (qh E qi) ?_ ?_))
    · rfl
    refine ⟨qT ?_, rfl⟩
    first
      | (symm; exact hbad k (by omega) (by
          rw [qda hu, hy]
          first
            | (rw [l20]; rfl)
            | (simp; omega)
            | (have h5 : ((l.take k).any fun z => sameId z.f u.f) = true := List.any_eq_true.2 ⟨v, List.mem_of_getElem? (i := i) (by rw [List.getElem?_take, if_pos (by omega)]; exact hv), by rw [qdl hvf l20]; exact c3⟩
               rw [h5]; simp)))
      | (rw [listB, List.all_eq_true.2 (fun j hj => by
           have hj := List.mem_range.1 hj
           exact hp.2.2 j (by omega))]; simp; omega)
      | (rw [listB, decide_eq_false (show ¬ l.length ≤ 300 by omega)]; simp; omega)
      | trace_state
  try simp only[↓cqA,cqB]at g9
  refine zY E (zY E (zA E (qg E E E) (zK (qab E (qQ (qn (qn (qX ?_)))))))); refine qa (qd (qb (zX E (zA E (qu E qaq E) (zA E (qj E E E E) (zX E (zK (qo (zI hL (qh E qi) ?_ ?_)))))))))
  · rfl
  refine ⟨qT ?_, rfl⟩
  first
    | (symm; exact hbad k (by omega) (by
        rw [qda hu, hy]
        first
          | (rw [l20]; rfl)
          | (simp; omega)
          | (have h5 : ((l.take k).any fun z => sameId z.f u.f) = true := List.any_eq_true.2 ⟨v, List.mem_of_getElem? (i := i) (by rw [List.getElem?_take, if_pos (by omega)]; exact hv), by rw [qdl hvf l20]; exact c3⟩
             rw [h5]; simp)))
    | (rw [listB, List.all_eq_true.2 (fun j hj => by
         have hj := List.mem_range.1 hj
         exact hp.2.2 j (by omega))]; simp; omega)
    | (rw [listB, decide_eq_false (show ¬ l.length ≤ 300 by omega)]; simp; omega)
    | trace_state
theorem nL {c : Ctx} {Oin : List (Nat × Ob)} (hL : ∀ l, c.L l ↔ inD Oin l = true) {l : Nat} (h : inD Oin l = false) : ¬ c.L l := fun hl => by
 rw [(hL l).1 hl] at h; cases h
end Go.Proofs.YtpgceiijoedppaaGreat

namespace Go.Proofs
open Go.Shelf
def Tryz.srtF_ren : Go.Shelf.Ren := ⟨fun | 6 => 122 | 15 => 191 | 14 => 190 | 28 => 252 | 29 => 253 | 20 => 244 | 21 => 245 | 22 => 246 | 23 => 247 | 24 => 248 | 25 => 249 | 26 => 250 | 27 => 251 | 46 => 284 | 47 => 285 | 48 => 286 | 49 => 287 | 50 => 288 | 57 => 317 | n => n, fun | 22 => 109 | 24 => 69 | 25 => 158 | 3 => 3 | 39 => 125 | 0 => 0 | 53 => 263 | 55 => 265 | 4 => 4 | 46 => 257 | 45 => 256 | 50 => 196 | 5 => 5 | 9 => 9 | 66 => 295 | 70 => 193 | 76 => 321 | 77 => 322 | n => n, fun | n => n⟩
theorem Tryz.srtF : Go.Proofs.SlLaysF0.n6 Tryz.prog Tryz.srtF_ren := {
 mixed := by kernel_rfl
 f6 := ⟨Tryz.f122.name, by decide, Tryz.func122.trans (congrArg some (by kernel_rfl))⟩
 f14 := ⟨Tryz.f190.name, by decide, Tryz.func190.trans (congrArg some (by kernel_rfl))⟩
 f15 := Tryz.func191.trans (congrArg some (by kernel_rfl))
 f20 := ⟨Tryz.f244.name, by decide, Tryz.func244.trans (congrArg some (by kernel_rfl))⟩
 f21 := ⟨Tryz.f245.name, by decide, Tryz.func245.trans (congrArg some (by kernel_rfl))⟩
 f22 := ⟨Tryz.f246.name, by decide, Tryz.func246.trans (congrArg some (by kernel_rfl))⟩
 f23 := ⟨Tryz.f247.name, by decide, Tryz.func247.trans (congrArg some (by kernel_rfl))⟩
 f24 := ⟨Tryz.f248.name, by decide, Tryz.func248.trans (congrArg some (by kernel_rfl))⟩
 f25 := ⟨Tryz.f249.name, by decide, Tryz.func249.trans (congrArg some (by kernel_rfl))⟩
 f26 := ⟨Tryz.f250.name, by decide, Tryz.func250.trans (congrArg some (by kernel_rfl))⟩
 f27 := ⟨Tryz.f251.name, by decide, Tryz.func251.trans (congrArg some (by kernel_rfl))⟩
 f28 := Tryz.func252.trans (congrArg some (by kernel_rfl))
 f29 := Tryz.func253.trans (congrArg some (by kernel_rfl))
 f46 := ⟨Tryz.f284.name, by decide, Tryz.func284.trans (congrArg some (by kernel_rfl))⟩
 f47 := Tryz.func285.trans (congrArg some (by kernel_rfl))
 f48 := Tryz.func286.trans (congrArg some (by kernel_rfl))
 f49 := ⟨Tryz.f287.name, by decide, Tryz.func287.trans (congrArg some (by kernel_rfl))⟩
 f50 := ⟨Tryz.f288.name, by decide, Tryz.func288.trans (congrArg some (by kernel_rfl))⟩
 f57 := ⟨Tryz.f317.name, by decide, Tryz.func317.trans (congrArg some (by kernel_rfl))⟩
 t0 := Tryz.underlying0
 a0 := Tryz.isAgg0
 z0 := Tryz.sizeOf0
 v0 := Tryz.zeroValue0
 t3 := Tryz.underlying3
 a3 := Tryz.isAgg3
 z3 := Tryz.sizeOf3
 v3 := Tryz.zeroValue3
 t4 := Tryz.underlying4
 a4 := Tryz.isAgg4
 z4 := Tryz.sizeOf4
 v4 := Tryz.zeroValue4
 t5 := Tryz.underlying5
 a5 := Tryz.isAgg5
 z5 := Tryz.sizeOf5
 v5 := Tryz.zeroValue5
 t9 := Tryz.underlying9
 a9 := Tryz.isAgg9
 z9 := Tryz.sizeOf9
 v9 := Tryz.zeroValue9
 t22 := Tryz.underlying109
 a22 := Tryz.isAgg109
 z22 := Tryz.sizeOf109
 v22 := Tryz.zeroValue109
 t25 := Tryz.underlying158
 a25 := Tryz.isAgg158
 z25 := Tryz.sizeOf158
 v25 := Tryz.zeroValue158
 t39 := Tryz.underlying125
 a39 := Tryz.isAgg125
 z39 := Tryz.sizeOf125
 v39 := Tryz.zeroValue125
 t45 := Tryz.underlying256
 a45 := Tryz.isAgg256
 z45 := Tryz.sizeOf256
 v45 := Tryz.zeroValue256
 t46 := Tryz.underlying257
 a46 := Tryz.isAgg257
 z46 := Tryz.sizeOf257
 v46 := Tryz.zeroValue257
 t50 := Tryz.underlying196
 a50 := Tryz.isAgg196
 z50 := Tryz.sizeOf196
 v50 := Tryz.zeroValue196
 t53 := Tryz.underlying263
 a53 := Tryz.isAgg263
 z53 := Tryz.sizeOf263
 v53 := Tryz.zeroValue263
 t55 := Tryz.underlying265
 a55 := Tryz.isAgg265
 z55 := Tryz.sizeOf265
 v55 := Tryz.zeroValue265
 t66 := Tryz.underlying295
 a66 := Tryz.isAgg295
 z66 := Tryz.sizeOf295
 v66 := Tryz.zeroValue295
 t70 := Tryz.underlying193
 a70 := Tryz.isAgg193
 z70 := Tryz.sizeOf193
 v70 := Tryz.zeroValue193
 t76 := Tryz.underlying321
 a76 := Tryz.isAgg321
 z76 := Tryz.sizeOf321
 v76 := Tryz.zeroValue321
 t77 := Tryz.underlying322
 a77 := Tryz.isAgg322
 z77 := Tryz.sizeOf322
 v77 := Tryz.zeroValue322 }
end Go.Proofs

namespace Go.Proofs.YtpgceiijoedppaaGreat
open Go
theorem Num_ok (x m : Int) : PF 97 [iv x, iv m] (bv (decide (0 ≤ x ∧ x ≤ m))) := by
 refine qF Tryz.func97 E Tryz.ntmps97 zL fun c hL hQ hDD => (qd (qb (zX E (zK (qd (qb ?_)))))); refine zX E (zA E (qj E E E E) (zX E (qt 7 E (fun g7 => ?_) (fun g7 => ?_))))
 ·try simp only[↓cqA,cqB]at g7
  refine zZ E (qk (.inl E) E) (zZ E (qk (.inl E) E) (zZ E (qj E E E E) (zA E (qg E E E) (zX E (zK (qo (zI hL (qh E qi) ?_ ?_)))))))
  ·rfl
  refine ⟨qT ?_, rfl⟩
  rw [Bool.eq_iff_iff]; simp; try omega
 try simp only[↓cqA,cqB]at g7
 refine zY E (zY E (zY E (zA E (qg E E E) (zX E (zK (qo (zI hL (qh E qi) ?_ ?_)))))))
 ·rfl
 refine ⟨qT ?_, rfl⟩
 rw [Bool.eq_iff_iff]; simp; try omega
def wgtP : Nat → Pt → Int
 | 0, _ => 1048576
 | d + 1, p => wgtL (wgtP d) (wgtL (wgtP d) (wgtL (wgtP d) (1 + wT p.t) p.l) p.r) p.c
def dlP : Nat → Pt → Prop
 | 0, _ => False
 | d + 1, p => dle 30 p.t ∧ (∀ x ∈ p.l, dlP d x) ∧ (∀ x ∈ p.r, dlP d x) ∧ ∀ x ∈ p.c, dlP d x
theorem wgtL_top {α : Type} (f : α → Int) (B : Int) (hB : 1048576 ≤ B) : ∀ (n : Int) (l : List α), (∀ t ∈ l, f t ≤ B) → n ≤ 1048576 + B → wgtL f n l ≤ 1048576 + B
  | n, [], _, h0 => h0
  | n, a :: l, h, h0 => by
    simp only [wgtL]
    split
    · exact wgtL_top f B hB _ l (fun t ht => h t (by simp [ht])) (by have := h a (by simp); omega)
    · exact h0
theorem qdG : ∀ (d : Nat) (p : Pt), p.wf → 0 ≤ wgtP d p
  | 0, _, _ => by simp [wgtP]
  | d + 1, p, h => by
    have h0 := qbL p.t h.2.1
    simp only [wgtP]
    have hl := qbr (wgtP d) (1 + wT p.t) p.l (fun t ht => qdG d t (Pt.wfs_iff.1 h.2.2.2.1.2 t ht))
    have hr := qbr (wgtP d) (wgtL (wgtP d) (1 + wT p.t) p.l) p.r (fun t ht => qdG d t (Pt.wfs_iff.1 h.2.2.2.2.1.2 t ht))
    have hc := qbr (wgtP d) (wgtL (wgtP d) (wgtL (wgtP d) (1 + wT p.t) p.l) p.r) p.c (fun t ht => qdG d t (Pt.wfs_iff.1 h.2.2.2.2.2.2 t ht))
    omega
theorem wgtP_le : ∀ (d : Nat) (p : Pt), p.wf → wgtP d p ≤ 4362862138900001 + 1048576 * d
  | 0, _, _ => by simp [wgtP]
  | d + 1, p, h => by
    have h0 := qbL p.t h.2.1
    simp only [wgtP]
    have hB : (1048576 : Int) ≤ 4362862138900001 + 1048576 * d := by omega
    have hl := wgtL_top (wgtP d) (4362862138900001 + 1048576 * d) hB (1 + wT p.t) p.l (fun t ht => wgtP_le d t (Pt.wfs_iff.1 h.2.2.2.1.2 t ht)) (by omega)
    have hr := wgtL_top (wgtP d) (4362862138900001 + 1048576 * d) hB (wgtL (wgtP d) (1 + wT p.t) p.l) p.r (fun t ht => wgtP_le d t (Pt.wfs_iff.1 h.2.2.2.2.1.2 t ht)) hl
    have hc := wgtL_top (wgtP d) (4362862138900001 + 1048576 * d) hB (wgtL (wgtP d) (wgtL (wgtP d) (1 + wT p.t) p.l) p.r) p.c (fun t ht => wgtP_le d t (Pt.wfs_iff.1 h.2.2.2.2.2.2 t ht)) hr
    push_cast
    omega
theorem wgtP_dlP : ∀ (d : Nat) (p : Pt), p.wf → wgtP d p ≤ 1048575 → dlP d p
  | 0, p, _, h => by simp [wgtP] at h
  | d + 1, p, h, hw => by
    have h0 := qbL p.t h.2.1
    simp only [wgtP] at hw
    have hL : ∀ t ∈ p.l, 0 ≤ wgtP d t := fun t ht => qdG d t (Pt.wfs_iff.1 h.2.2.2.1.2 t ht)
    have hR : ∀ t ∈ p.r, 0 ≤ wgtP d t := fun t ht => qdG d t (Pt.wfs_iff.1 h.2.2.2.2.1.2 t ht)
    have hC : ∀ t ∈ p.c, 0 ≤ wgtP d t := fun t ht => qdG d t (Pt.wfs_iff.1 h.2.2.2.2.2.2 t ht)
    have g1 := qbr (wgtP d) (1 + wT p.t) p.l hL
    have g2 := qbr (wgtP d) (wgtL (wgtP d) (1 + wT p.t) p.l) p.r hR
    obtain ⟨a1, a2⟩ := wgtL_mem (wgtP d) 1048575 (by omega) _ p.c hC (by omega) hw
    obtain ⟨b1, b2⟩ := wgtL_mem (wgtP d) 1048575 (by omega) _ p.r hR (by omega) a1
    obtain ⟨c1, c2⟩ := wgtL_mem (wgtP d) 1048575 (by omega) _ p.l hL (by omega) b1
    exact ⟨wgt_dle 30 p.t (show wT p.t ≤ 1048575 by omega), fun x hx => wgtP_dlP d x (Pt.wfs_iff.1 h.2.2.2.1.2 x hx) (c2 x hx), fun x hx => wgtP_dlP d x (Pt.wfs_iff.1 h.2.2.2.2.1.2 x hx) (b2 x hx), fun x hx => wgtP_dlP d x (Pt.wfs_iff.1 h.2.2.2.2.2.2 x hx) (a2 x hx)⟩
def wP (p : Pt) : Int := wgtP 30 p
theorem wP_range (p : Pt) (h : p.wf) : 0 ≤ wP p ∧ wP p ≤ 4362870000000000 := by
 have h1 := qdG 30 p h
 have h2 := wgtP_le 30 p h
 simp only [wP]; omega
def wR (r : Rl) : Int := wT r.head + wP r.body + wGs r.g
theorem wR_range (r : Rl) (h : r.wf) : 0 ≤ wR r ∧ wR r ≤ 20000000000000000 := by
 have h1 := qbL r.head h.1
 have h2 := wP_range r.body h.2.1
 have h3 := wGs_range r.g h.2.2.1.1 h.2.2.1.2
 simp only [wR]; omega
def wM (m : Mt) : Int := m.u.length + wBs m.b
theorem wM_range (m : Mt) (h : m.wf) : 0 ≤ wM m ∧ wM m ≤ 5000000000000000 := by
 have h1 := wBs_range m.b h.1.1 h.1.2
 have h2 := h.2.2.1
 simp only [qba] at h2
 simp only [wM]; omega
def wMs (l : List Mt) : Int := wgtL wM l.length l
theorem wMs_range (l : List Mt) (hl : qba l) (hw : ∀ g ∈ l, g.wf) : 0 ≤ wMs l ∧ wMs l ≤ 5200000000000000 := by
 have hF : ∀ u, u ∈ l → 0 ≤ wM u ∧ wM u ≤ 5000000000000000 := fun u hu => wM_range u (hw u hu)
 have h1 := qdH wM 5000000000000000 (by omega) l.length l (fun u hu => (hF u hu).2) (by simp only [qba] at hl; omega)
 have h2 := qbr wM l.length l (fun u hu => (hF u hu).1)
 simp only [wMs]; omega
def n13 (p : Ask13) : Int := wgtL wP (wKs p.L + wMs p.M + p.X.length) p.X
def heavy13 (p : Ask13) : Bool := decide (1200 < n13 p)
def n14 (p : Ask14) : Int := wgtL wR (wTs p.K + p.R.length + p.G.length) p.R
def heavy14 (p : Ask14) : Bool := decide (1500 < n14 p) || heavy13 p.M
theorem EqNumbers_ok (x y : List Int) (lx : x.length ≤ 140737488351232) (ly : y.length ≤ 140737488351232) : PF 70 [.dat false 1 (inDs x), .dat false 1 (inDs y)] (bv (decide (x = y))) := by
 have hlx := qbm x
 have hly := qbm y
 refine qF Tryz.func70 E Tryz.ntmps70 zL fun c hL hQ hDD => (qd (qb (zX E (zK (qd (qd ?_)))))); refine qb (zX E (zA E (qu E qaL E) (zX E (zA E (qu E qaL E) (zA E (qj E E E E) (zK (qq E (fun c0 => ?_) (fun c0 => ?_))))))))
 ·try simp only[↓cqA,cqB]at c0
  refine qd (qb (zX E (zK (qo (qm (zI hL (qh E qi) ?_ ?_))))))
  ·rfl
  exact ⟨qT (by symm; rw [decide_eq_false_iff_not]; intro h; rw [h] at c0; omega), rfl⟩
 try simp only[↓cqA,cqB]at c0
 refine qr (qa (qd (qd (qb (zX E (zK ?_)))))); refine qv (q6 (x.length) (fun k => k ≤ x.length ∧ x.take k = y.take k) (fun k => ⟨[(0, .dat false 1 (inDs x)), (1, .dat false 1 (inDs y)), (5, iv (k : Int))], []⟩) (⟨by omega, by simp⟩) ?_ (fun k hk hp => ?_))
 ·exact zR hL (zC E (zC E (zC E SubT.nil))) SubO.nil
 refine qd (qd (qb (zX E (zX E (zA E (qu E qaL E) (zA E (qj E E E E) (qc ?_))))))); refine qa (qq E (fun c1 => ?_) (fun c1 => ?_))
 ·try simp only[↓cqA,cqB]at c1
  obtain ⟨u, hu⟩ := qH (l := x) (k := k) (by omega)
  obtain ⟨v, hv⟩ := qH (l := y) (k := k) (by omega)
  refine qr (qa (qd (qv (qd (qZ 8 mixed E E E E (qf E zD (.run E (qk (.inl E) E)) (qf E zD (.run E (qk (.inl E) E)) ?_))))))); refine qf E zD (.run E (qp E qaL E E (by omega) (inDs_get hu))) (qf E zD (.run E (qN E qU E)) ?_)
  refine qf E zD (.run E (qk (.inl E) E)) (qf E zD (.run E (qk (.inl E) E)) (qf E zD (.run E (qp E qaL E E (by omega) (inDs_get hv))) (qf E zD (.run E (qN E qU E)) (qak ⟨rfl, rfl, ?_⟩)))); refine zA E (qj E E E E) (zK (qq E (fun c2 => ?_) (fun c2 => ?_)))
  ·try simp only[↓cqA,cqB]at c2
   refine qd (qb (zX E (zK (qo (qS (qm (qm (qS (qm (zI hL (qh E qi) ?_ ?_))))))))))
   ·rfl
   exact ⟨qT (by symm; rw [decide_eq_false_iff_not]; intro h; rw [h, hv] at hu; cases hu; exact c2 E), rfl⟩
  try simp only[↓cqA,cqB]at c2
  refine qr (qP (qa (qb (zX E (zA E (qJ E E E (by omega)) (zX E (qc ?_))))))); refine qa ?_; refine ⟨?_, ?_, ?_⟩
  ·omega
  ·refine ⟨by omega, ?_⟩
   rw [qac hu, qac hv, hp.2]
   rw [c2]
  exact zR hL (zC E (zC E (zC E SubT.nil))) SubO.nil
 try simp only[↓cqA,cqB]at c1
 refine qQ (qn (qn (qX ?_))); refine qa (qd (qb (zX E (zK (qo (zI hL (qh E qi) ?_ ?_))))))
 ·rfl
 exact ⟨qT (by symm; rw [decide_eq_true_eq]; have h := hp.2; rw [List.take_of_length_le (by omega), List.take_of_length_le (by omega)] at h; exact h), rfl⟩
theorem In_ok (l : List Int) (hl : l.length ≤ 140737488351232) (n : Int) : AC Tryz.prog 27 [.dat false 1 (inDs l), iv n] [] (fun r O => (∃ i : Int, r = iv i ∧ (0 ≤ i ↔ n ∈ l)) ∧ O = []) := by
 have hlen := qbm l
 refine qF Tryz.func27 E Tryz.ntmps27 zL fun c hL hQ hDD => (qd (qb (zX E (zK (qd (qd ?_)))))); refine qb (zX E (qc (qa (qv (q6 (l.length) (fun k => k ≤ l.length ∧ ¬ n ∈ l.take k) (fun k => ⟨[(0, .dat false 1 (inDs l)), (1, iv n), (5, iv (k : Int))], []⟩) (⟨by omega, by simp⟩) ?_ (fun k hk hp => ?_))))))
 ·exact zR hL (zC E (zC E (zC E SubT.nil))) SubO.nil
 refine qd (qd (qb (zX E (zX E (zA E (qu E qaL E) (zA E (qj E E E E) (qc ?_))))))); refine qa (qq E (fun c0 => ?_) (fun c0 => ?_))
 ·try simp only[↓cqA,cqB]at c0
  obtain ⟨u, hu⟩ := qH (l := l) (k := k) (by omega)
  refine qr (qa (qd (qv (qd (qb (zX E (zX E ?_))))))); refine zA E (qp E qaL E E (by omega) (inDs_get hu)) (zA E (qN E qU E) (zX E (zA E (qj E E E E) (zK (qq E (fun c1 => ?_) (fun c1 => ?_))))))
  ·try simp only[↓cqA,cqB]at c1
   refine qd (qb (zX E (zX E (zK (qo (qS (qm (qm (qS (qm (zI hL (qh E qi) ?_ ?_)))))))))))
   ·rfl
   exact ⟨⟨_, rfl, by have := List.mem_of_getElem? hu; rw [c1] at this; exact ⟨fun _ => this, fun _ => by omega⟩⟩, rfl⟩
  try simp only[↓cqA,cqB]at c1
  refine qr (qP (qa (qb (zX E (zA E (qJ E E E (by omega)) (zX E (qc ?_))))))); refine qa ?_; refine ⟨?_, ?_, ?_⟩
  ·omega
  ·refine ⟨by omega, ?_⟩
   rw [qac hu]
   intro h
   rcases List.mem_append.1 h with h | h
   ·exact hp.2 h
   ·exact c1 (List.mem_singleton.1 h).symm
  exact zR hL (zC E (zC E (zC E SubT.nil))) SubO.nil
 try simp only[↓cqA,cqB]at c0
 refine qQ (qn (qn (qX ?_))); refine qa (qd (qb (zX E (zK (qo (zI hL (qh E qi) ?_ ?_))))))
 ·rfl
 exact ⟨⟨_, rfl, by have h := hp.2; rw [List.take_of_length_le (by omega)] at h; exact ⟨fun h2 => by omega, fun h2 => absurd h2 h⟩⟩, rfl⟩
theorem Index_in_ok (l : List Int) (hl : l.length ≤ 140737488351232) (n : Int) : AC Tryz.prog 212 [.dat false 1 (inDs l), iv n] [] (fun r O => (∃ i : Int, r = iv i ∧ (0 ≤ i ↔ n ∈ l)) ∧ O = []) := by
 have hlen := qbm l
 refine qF Tryz.func212 E Tryz.ntmps212 zL fun c hL hQ hDD => (qd (qb (zX E (zK (qd (qd ?_)))))); refine qb (zX E (zA E (qu E qaL E) (zX E (zK (qv (q6 (l.length) (fun k => k ≤ l.length ∧ ¬ n ∈ l.take k) (fun k => ⟨[(0, .dat false 1 (inDs l)), (1, iv n), (7, iv (inDs l).length), (8, iv (k : Int))], []⟩) (⟨by omega, by simp⟩) ?_ (fun k hk hp => ?_)))))))
 ·exact zR hL (zC E (zC E (zC E (zC E SubT.nil)))) SubO.nil
 refine qd (qb (zA E (qj E E E E) (zK (qd (qq E (fun c0 => ?_) (fun c0 => ?_))))))
 ·try simp only[↓cqA,cqB]at c0
  obtain ⟨u, hu⟩ := qH (l := l) (k := k) (by omega)
  refine qr (qa (qd (qv (qd (qb (zX E (zX E ?_))))))); refine zK (qd (qb (zX E (zX E (zX E (zA E (qp E qaL E E (by omega) (inDs_get hu)) (zA E (qN E qU E) (zA E (qj E E E E) (zK (qq E (fun c1 => ?_) (fun c1 => ?_)))))))))))
  ·try simp only[↓cqA,cqB]at c1
   refine qd (qb (zX E (zX E (zK (qo (qS (qm (qm (qS (qm (zI hL (qh E qi) ?_ ?_)))))))))))
   ·rfl
   exact ⟨⟨_, rfl, by have := List.mem_of_getElem? hu; rw [← c1] at this; exact ⟨fun _ => this, fun _ => by omega⟩⟩, rfl⟩
  try simp only[↓cqA,cqB]at c1
  refine qr (qP (qa (qb (zA E (qJ E E E (by omega)) (zX E (zK ?_)))))); refine ⟨?_, ?_, ?_⟩
  ·omega
  ·refine ⟨by omega, ?_⟩
   rw [qac hu]
   intro h
   rcases List.mem_append.1 h with h | h
   ·exact hp.2 h
   ·exact c1 (List.mem_singleton.1 h)
  exact zR hL (zC E (zC E (zC E (zC E SubT.nil)))) SubO.nil
 try simp only[↓cqA,cqB]at c0
 refine qQ (qn (qn (qX ?_))); refine qa (qd (qb (zX E (zK (qo (zI hL (qh E qi) ?_ ?_))))))
 ·rfl
 exact ⟨⟨_, rfl, by have h := hp.2; rw [List.take_of_length_le (by omega)] at h; exact ⟨fun h2 => by omega, fun h2 => absurd h2 h⟩⟩, rfl⟩
theorem Contains_in_ok (l : List Int) (hl : l.length ≤ 140737488351232) (n : Int) : PF 148 [.dat false 1 (inDs l), iv n] (bv (l.any fun g => decide (g = n))) := by
 have hany : (l.any fun g => decide (g = n)) = decide (n ∈ l) := by
  rw [Bool.eq_iff_iff, List.any_eq_true, decide_eq_true_eq]
  exact ⟨fun ⟨x, h1, h2⟩ => by rw [← of_decide_eq_true h2]; exact h1, fun h => ⟨n, h, by simp⟩⟩
 rw [hany]
 refine qF Tryz.func148 E Tryz.ntmps148 zL fun c hL hQ hDD => (qd (qb (zX E (zK (qd (qb ?_)))))); refine zX E ?_
 refine zX E ?_; refine qaj (avs := [_, _]) true E E E zD en_slices_Index_int_int E E (Index_in_ok l hl n) E (qbX .nil) (by rintro r O' ⟨_, rfl⟩; exact frB E) (by rintro - r O' ⟨⟨i, rfl, _⟩, rfl⟩; exact ⟨rfl, rfl⟩) ?_
 rintro r O' ⟨⟨i, rfl, hi⟩, rfl⟩
 refine zA E (qj E E E E) (zX E (zK (qo (zI hL (qh E qi) ?_ ?_))))
 ·rfl
 exact ⟨qT (by rw [Bool.eq_iff_iff]; simp only [decide_eq_true_eq]; exact hi), rfl⟩
theorem CopyNumbers_ok (b : Bool) (l : List Int) (hl : l.length ≤ 1000000000) : AC Tryz.prog 109 [.dat false 1 (inDs l)] [] (fun r O => r = .row 3 ∧ O = [(3, .rowd 3 1 b (inDs l))]) := by
 have hlen := qbm l
 refine qF Tryz.func109 E Tryz.ntmps109 zL fun c hL hQ hDD => (qd (qb (zX E (zK (qd (qb ?_)))))); refine zX E (zK (qd (qd (qb (zX E (zK (qv (q6 (l.length) (fun k => k ≤ l.length) (fun k => ⟨[(0, .dat false 1 (inDs l)), (3, .row 3), (4, iv (k : Int))], [(3, .rowd 3 1 b (inDs (l.take k)))]⟩) (by omega) ?_ (fun k hk hp => ?_)))))))))
 ·exact Sub.trans (qaU (t := 3) (l := 3) 3 1 b E E) (qB (zC E (zC E (zC E SubT.nil))) (SubO.cons (qR E (by rfl)) SubO.nil) E E (noL' (noL hL) _))
 have hl2 : (inDs (l.take k)).length ≤ l.length := by rw [qbm, List.length_take]; omega
 refine qd (qd (qb (zX E (zX E (zA E (qu E qaL E) (zA E (qj E E E E) (qc ?_))))))); refine qa (qq E (fun c0 => ?_) (fun c0 => ?_))
 ·try simp only[↓cqA,cqB]at c0
  obtain ⟨u, hu⟩ := qH (l := l) (k := k) (by omega)
  refine qr (qa (qd (qv (qb (zX E (zX E (zX E ?_))))))); refine zA E (qp E qaL E E (by omega) (inDs_get hu)) (zA E (qN E qU E) (qy E E zD (qam 16 E qaL zv_int E E zD zD zD E E E) E (qc1 E E zD (qa5 17 ta_S_int E E E E E E E E (noL hL _) (by omega) E) E ?_)))
  refine zX E (qc (qP (qa (qb (zX E (zA E (qJ E E E (by omega)) (zX E ?_))))))); refine zK ?_; refine ⟨?_, ?_, ?_⟩
  ·omega
  ·omega
  exact Sub.trans (qaC 17 3 (noL hL _) (noL hL _)) (qB (zC E (zC E (zC E SubT.nil))) (SubO.cons (qR E (by rw [qac hu, inDs, inDs, List.map_append]; rfl)) SubO.nil) E E (noL' (noL hL) _))
 try simp only[↓cqA,cqB]at c0
 refine qQ (qn (qn (qX ?_))); refine qa (qd (qb (zX E (zX E (zK (qo ?_))))))
 change retQ _ _ _ _ _ _ _
 refine retO (O' := [(3, _)]) (.inl E) (qh E qi) (SubO.cons E SubO.nil) ?_ ?_ (noL' (noL hL) _) ?_
 ·rfl
 ·rfl
 exact ⟨rfl, by rw [List.take_of_length_le (by omega)]⟩
theorem CompareInt_ok (x y : List Int) (hx : x.length ≤ 140737488351232) (hy : y.length ≤ 140737488351232) : PFm 183 [.dat false 1 (inDs x), .dat false 1 (inDs y)] (iv (cmpG cmpI x y)) := by
 have hlx := qbm x
 have hly := qbm y
 refine qF Tryz.func183 E Tryz.ntmps183 zL fun c hL hQ hDD => (qd (qb (zX E (zK (qd (qd ?_)))))); refine qb (zX E (zA E (qu E qaL E) (zX E (zK (qv (q6 (x.length) (fun k => k ≤ x.length ∧ k ≤ y.length ∧ ∀ j a b, j < k → x[j]? = some a → y[j]? = some b → cmpI a b = 0) (fun k => ⟨[(0, .dat false 1 (inDs x)), (1, .dat false 1 (inDs y)), (9, .dat false 1 (inDs x)), (10, iv (inDs x).length), (11, iv (k : Int))], []⟩) (⟨by omega, by omega, fun j a b hj => absurd hj (by omega)⟩) ?_ (fun k hk hp => ?_)))))))
 ·exact zR hL (zC E (zC E (zC E (zC E (zC E SubT.nil))))) SubO.nil
 refine qd (qb (zA E (qj E E E E) (zK (qd (qq E (fun c0 => ?_) (fun c0 => ?_))))))
 ·try simp only[↓cqA,cqB]at c0
  obtain ⟨u, hu⟩ := qH (l := x) (k := k) (by omega)
  have hu2 := List.getElem?_eq_some_iff.1 hu
  refine qr (qa (qd (qv (qd (qb (zX E (zA E (qp E qaL E E (by omega) (inDs_get hu)) ?_))))))); refine zA E (qN E qU E) ?_
  refine zX E (zX E (zK (qd (qd (qb (zX E ?_)))))); refine zX E (zA E (qu E qaL E) (zA E (qj E E E E) (zK (qq E (fun c1 => ?_) (fun c1 => ?_)))))
  ·try simp only[↓cqA,cqB]at c1
   refine qd (qb (zX E (zK (qo (qm (qS (qm (qm (qS (qm (zI hL (qh E qi) ?_ ?_)))))))))))
   ·rfl
   refine ⟨qa2 ?_, rfl⟩
   rw [qd2 cmpI x y k (by omega) (by omega) hp.2.2, List.drop_eq_getElem_cons (by omega), show List.drop k y = [] from List.drop_eq_nil_of_le (by omega), cmpG]
  try simp only[↓cqA,cqB]at c1
  obtain ⟨v, hv⟩ := qH (l := y) (k := k) (by omega)
  have hv2 := List.getElem?_eq_some_iff.1 hv
  refine qr (qa (qd (qb (zX E (zX E (zA E (qp E qaL E E (by omega) (inDs_get hv)) (zA E (qN E qU E) (zX E (zK (qd (qb (zX E (zX E ?_)))))))))))))
  refine qE (avs := [_, _]) true E E E zD qbp E E (cmpInt_ok _ _) E E (zX E (zK (qd (qb (zX E (zA E (qj E E E E) ?_)))))); refine zK (qq E (fun c2 => ?_) (fun c2 => ?_))
  ·try simp only[↓cqA,cqB]at c2
   refine qd (qb (zX E (zX E (zK (qo (qS (qm (qm (qS (qm (zI hL (qh E qi) ?_ ?_)))))))))))
   ·rfl
   refine ⟨qa2 ?_, rfl⟩
   rw [qd2 cmpI x y k (by omega) (by omega) hp.2.2, List.drop_eq_getElem_cons (by omega), List.drop_eq_getElem_cons (l := y) (by omega), cmpG, hu2.2, hv2.2, if_neg (by simpa using c2)]
  try simp only[↓cqA,cqB]at c2
  refine qr (qP (qa (qb (zA E (qJ E E E (by omega)) (zX E (zK ?_)))))); refine ⟨?_, ?_, ?_⟩
  ·omega
  ·refine ⟨by omega, by omega, fun j a b hj hx hy => ?_⟩
   by_cases hjk : j < k
   ·exact hp.2.2 j a b hjk hx hy
   ·rw [show j = k by omega] at hx hy; rw [hu] at hx; rw [hv] at hy; cases hx; cases hy; simpa using c2
  exact zR hL (zC E (zC E (zC E (zC E (zC E SubT.nil))))) SubO.nil
 try simp only[↓cqA,cqB]at c0
 refine qQ (qn (qn (qX ?_))); refine qa (qd (qd (qb (zX E (zA E (qu E qaL E) (zX E (zA E (qu E qaL E) ?_))))))); refine zA E (qj E E E E) (zK (qq E (fun c3 => ?_) (fun c3 => ?_)))
 ·try simp only[↓cqA,cqB]at c3
  refine qd (qb (zX E (zK (qo (qm (zI hL (qh E qi) ?_ ?_))))))
  ·rfl
  refine ⟨qa2 ?_, rfl⟩
  rw [qd2 cmpI x y k (by omega) (by omega) hp.2.2, List.drop_eq_nil_of_le (by omega), List.drop_eq_getElem_cons (l := y) (by omega), cmpG]
 try simp only[↓cqA,cqB]at c3
 refine qr (qa (qd (qb (zX E (zK (qo (zI hL (qh E qi) ?_ ?_)))))))
 ·rfl
 refine ⟨qa2 ?_, rfl⟩
 rw [qd2 cmpI x y k (by omega) (by omega) hp.2.2, List.drop_eq_nil_of_le (by omega), List.drop_eq_nil_of_le (by omega), cmpG]
theorem CompareFuncB_ok (x y : List Bd) (hx : x.length ≤ 140737488351232) (hy : y.length ≤ 140737488351232) (f : Bd → Bd → Int) (g : FuncId) (hen : qW Tryz.prog g) (hg : ∀ a b, a ∈ x → b ∈ y → PFm g [.agg (lift false (bdD a)), .agg (lift false (bdD b))] (iv (f a b))) :
  PFm 185 [bdA x, bdA y, .fn g []] (iv (cmpG f x y)) := by
 have hlx := qaR x
 have hly := qaR y
 refine qF Tryz.func185 E Tryz.ntmps185 zL fun c hL hQ hDD => (qd (qb (zX E (zK (qd (qd ?_)))))); refine qb (zX E (zA E (qu E qO E) (zX E (zK (qv (q6 (x.length) (fun k => k ≤ x.length ∧ k ≤ y.length ∧ ∀ j a b, j < k → x[j]? = some a → y[j]? = some b → f a b = 0) (fun k => ⟨[(0, bdA x), (1, bdA y), (2, .fn g []), (11, bdA x), (12, iv (bdDs x).length), (13, iv (k : Int))], []⟩) (⟨by omega, by omega, fun j a b hj => absurd hj (by omega)⟩) ?_ (fun k hk hp => ?_)))))))
 ·exact zR hL (zC E (zC E (zC E (zC E (zC E (zC E SubT.nil)))))) SubO.nil
 refine qd (qb (zA E (qj E E E E) (zK (qd (qq E (fun c0 => ?_) (fun c0 => ?_))))))
 ·try simp only[↓cqA,cqB]at c0
  obtain ⟨u, hu⟩ := qH (l := x) (k := k) (by omega)
  have hu2 := List.getElem?_eq_some_iff.1 hu
  refine qr (qa (qd (qv (qd (qb (zX E (zA E (qp E qO E E (by omega) (qbe hu)) ?_))))))); refine zA E (qC E qaT E E) ?_
  refine qy E E zD (qaD 8 E qby E) E (zX E (qae E E E qaT E E E E E E E E E (zK (qd (qd (qb ?_)))))); refine zX E (zX E (zA E (qu E qO E) (zA E (qj E E E E) (zK (qq E (fun c1 => ?_) (fun c1 => ?_))))))
  ·try simp only[↓cqA,cqB]at c1
   refine qd (qb (zX E (zK (qo (qm (qS (qm (qm (qS (qm (zI hL (qh E qi) ?_ ?_)))))))))))
   ·rfl
   refine ⟨qa2 ?_, rfl⟩
   rw [qd2 f x y k (by omega) (by omega) hp.2.2, List.drop_eq_getElem_cons (by omega), show List.drop k y = [] from List.drop_eq_nil_of_le (by omega), cmpG]
  try simp only[↓cqA,cqB]at c1
  obtain ⟨v, hv⟩ := qH (l := y) (k := k) (by omega)
  have hv2 := List.getElem?_eq_some_iff.1 hv
  refine qr (qa (qd (qb (zX E (zX E (zA E (qp E qO E E (by omega) (qbe hv)) (zA E (qC E qaT E E) ?_)))))))
  refine qy E E zD (qaD 9 E qby E) E (qae E E E qaT E E E E E E E E E (zK (qd (qb (zX E (zA E (qK E qaT E E E E) ?_)))))); refine zA E (qK E qaT E E E E) ?_
  refine qE (avs := [_, _]) true E E E zD hen E E (hg u v (List.mem_of_getElem? hu) (List.mem_of_getElem? hv)) E E (zX E (zK (qd (qb (zX E (zA E (qj E E E E) ?_)))))); refine zK (qq E (fun c2 => ?_) (fun c2 => ?_))
  ·try simp only[↓cqA,cqB]at c2
   refine qd (qb (zX E (zX E (zK (qo (qS (qm (qm (qS (qm (zI hL (qh E qi) ?_ ?_)))))))))))
   ·rfl
   refine ⟨qa2 ?_, rfl⟩
   rw [qd2 f x y k (by omega) (by omega) hp.2.2, List.drop_eq_getElem_cons (by omega), List.drop_eq_getElem_cons (l := y) (by omega), cmpG, hu2.2, hv2.2, if_neg (by simpa using c2)]
  try simp only[↓cqA,cqB]at c2
  refine qr (qP (qa (qb (zA E (qJ E E E (by omega)) (zX E (zK ?_)))))); refine ⟨?_, ?_, ?_⟩
  ·omega
  ·refine ⟨by omega, by omega, fun j a b hj hx hy => ?_⟩
   by_cases hjk : j < k
   ·exact hp.2.2 j a b hjk hx hy
   ·rw [show j = k by omega] at hx hy; rw [hu] at hx; rw [hv] at hy; cases hx; cases hy; simpa using c2
  exact zR hL (zC E (zC E (zC E (zC E (zC E (zC E SubT.nil)))))) SubO.nil
 try simp only[↓cqA,cqB]at c0
 refine qQ (qn (qn (qX ?_))); refine qa (qd (qd (qb (zX E (zA E (qu E qO E) (zX E (zA E (qu E qO E) ?_))))))); refine zA E (qj E E E E) (zK (qq E (fun c3 => ?_) (fun c3 => ?_)))
 ·try simp only[↓cqA,cqB]at c3
  refine qd (qb (zX E (zK (qo (qm (zI hL (qh E qi) ?_ ?_))))))
  ·rfl
  refine ⟨qa2 ?_, rfl⟩
  rw [qd2 f x y k (by omega) (by omega) hp.2.2, List.drop_eq_nil_of_le (by omega), List.drop_eq_getElem_cons (l := y) (by omega), cmpG]
 try simp only[↓cqA,cqB]at c3
 refine qr (qa (qd (qb (zX E (zK (qo (zI hL (qh E qi) ?_ ?_)))))))
 ·rfl
 refine ⟨qa2 ?_, rfl⟩
 rw [qd2 f x y k (by omega) (by omega) hp.2.2, List.drop_eq_nil_of_le (by omega), List.drop_eq_nil_of_le (by omega), cmpG]
theorem meetOne_ok (a b : Bd) (hd : dle 5 a.t) (ha : a.wf) (hb : b.wf) : PFm 186 [.agg (lift false (bdD a)), .agg (lift false (bdD b))] (iv (oneCm a b)) := by
 have ha2 := ha.2
 have hb2 := hb.2
 refine qF Tryz.func186 E Tryz.ntmps186 zL fun c hL hQ hDD => (qd (qb (qy E E zD (qaa 2 E E E) E (qy E E zD (qaa 3 E E E) E (zX E (zK ?_)))))); refine qd (qZ 9 mixed E E E E (qf E zD (.run E (qe E qaG E)) (qf E zD (.run E (ql E qaf E E E E E)) (qf E zD (.run E (qe E qaG E)) (qf E zD (.run E (ql E qaf E E E E E)) (qf E zD (.run E (qY (avs := [_, _]) true E qdX E E (stringsCompare_ok _ _) (fun _ => rfl) E)) (qf E zD (.run E (qe E qaZ E)) (qf E zD (.run E (ql E qw E E E E E)) ?_))))))))
 refine qf E zD (.run E (qe E qaZ E)) (qf E zD (.run E (ql E qw E E E E E)) (qak ⟨rfl, rfl, ?_⟩)); refine qE (avs := [_, _]) true E E E zD en_term_Compare E E (Compare_ok 5 a.t b.t hd ha2 hb2) E E (qy E E zD (qam 15 E qaL zv_int E E zD zD zD E E E) E (qdg 15 false 2 E E E E (qE (avs := [_]) true E E E zD en_cmp_Or_int E E (cmpOr_ok [cmpS a.name b.name, cmpT 5 a.t b.t] (by simp)) rfl rfl (zN rfl rfl rfl (zK (qo (zI hL (qh E qi) ?_ ?_)))))))
 ·rfl
 exact ⟨rfl, rfl⟩
theorem meetCompare_ok (a b : Mt) (hd : ∀ x ∈ a.b, dle 5 x.t) (ha : a.wf) (hb : b.wf) : PFm 117 [mtA a, mtA b] (iv (cmpM a b)) := by
 obtain ⟨⟨la, wa⟩, _, lua, _⟩ := id ha
 obtain ⟨⟨lb, wb⟩, _, lub, _⟩ := id hb
 simp only [qba] at la lb lua lub
 refine qF Tryz.func117 E Tryz.ntmps117 zL fun c hL hQ hDD => (qd (qb (qy E E zD (qaa 2 E E E) E (qy E E zD (qaa 3 E E E) E (zX E (zK ?_)))))); refine qd (qZ 23 mixed E E E E (qf E zD (.run E (qe E qaY E)) (qf E zD (.run E (ql E qbM E E E E E)) (qf E zD (.run E (qe E qaY E)) (qf E zD (.run E (ql E qbM E E E E E)) (qf E zD (.run E (qY (avs := [_, _]) true E en_slices_Compare_int_int E E (CompareInt_ok a.u b.u (by omega) (by omega)) (fun _ => rfl) E)) (qf E zD (.run E (qe E q9 E)) (qf E zD (.run E (qe E qah E)) (qf E zD (.run E (ql E qU E E E E E)) (qf E zD (.run E (qe E q9 E)) (qf E zD (.run E (qe E qah E)) (qf E zD (.run E (ql E qU E E E E E)) (qf E zD (.run E (qY (avs := [_, _]) true E qbp E E (cmpInt_ok _ _) (fun _ => rfl) E)) ?_)))))))))))))
 refine qf E zD (.run E (qe E q9 E)) (qf E zD (.run E (qe E qat E)) (qf E zD (.run E (ql E qU E E E E E)) (qf E zD (.run E (qe E q9 E)) (qf E zD (.run E (qe E qat E)) (qf E zD (.run E (ql E qU E E E E E)) (qf E zD (.run E (qY (avs := [_, _]) true E qbp E E (cmpInt_ok _ _) (fun _ => rfl) E)) (qf E zD (.run E (qe E qaA E)) (qf E zD (.run E (ql E qap E E E E E)) (qf E zD (.run E (qe E qaA E)) (qf E zD (.run E (ql E qap E E E E E)) ?_))))))))))
 refine qak ⟨rfl, rfl, ?_⟩; refine qE (avs := [_, _, _]) true E E E zD qbR E E (CompareFuncB_ok a.b b.b (by omega) (by omega) oneCm _ en_meet_one (fun u v hu hv => meetOne_ok u v (hd u hu) (wa u hu) (wb v hv))) E E (qy E E zD (qam 29 E qaL zv_int E E zD zD zD E E E) E (qdg 29 false 4 E E E E (qE (avs := [_]) true E E E zD en_cmp_Or_int E E (cmpOr_ok [cmpG cmpI a.u b.u, cmpI a.fr b.fr, cmpI a.to b.to, cmpG oneCm a.b b.b] (by simp)) rfl rfl (zN rfl rfl rfl (zK (qo (zI hL (qh E qi) ?_ ?_)))))))
 ·rfl
 exact ⟨rfl, rfl⟩
end Go.Proofs.YtpgceiijoedppaaGreat
