/- Part 15 of the proof: Fe. -/
import Derived.Shelf.SlIter.Nil
import Derived.Shelf.SortM.Plain
import Derived.Shelf.SortM.SortNone
import Derived.Ground.GgzProg
import Derived.Ground.SlgmProg
import Derived.Shelf.SlGeneric
import Derived.Test.YtpgceiijoedppaaGreatC12
set_option linter.unusedVariables false
set_option linter.unusedSimpArgs false
set_option maxRecDepth 8000
namespace Go.Proofs.YtpgceiijoedppaaGreat
open Go
theorem qjq (x a b:Int):PF 160 [iv x,iv a,iv b] (bv (decide (a≤x∧x≤b))):=by
 refine qI Tryz.func160 E Tryz.ntmps160 zL fun c hL hQ hDD=>(qd (qb (zX E (zK (qd (qb ?_))))));refine zX E (zX E (zA E (qj E E E E) (zX E (qE 10 E (fun g10=>?_) (fun g10=>?_)))))
 ·simp only[↓cqA,cqB]at g10
  refine zZ E (ql (.inl E) E) (zZ E (ql (.inl E) E) (zZ E (qj E E E E) (zA E (qk E E E) (zX E (zK (qn (zI hL (qg E qh) ?_ ?_)))))))
  ·rfl
  refine ⟨q7 ?_,rfl⟩
  rw [Bool.eq_iff_iff];simp;try omega
 simp only[↓cqA,cqB]at g10
 refine zY E (zY E (zY E (zA E (qk E E E) (zX E (zK (qn (zI hL (qg E qh) ?_ ?_)))))))
 ·rfl
 refine ⟨q7 ?_,rfl⟩
 rw [Bool.eq_iff_iff];simp;try omega
def qkj (s:ByteArray):Bool:=(List.range s.size).all fun i=>qbD (qdm s i)
theorem rtail_ok (s:ByteArray)(hs:s.size≤140737488351232):PF 119 [sv s] (bv (qkj s)):=by
 refine qI Tryz.func119 E Tryz.ntmps119 zL fun c hL hQ hDD=>(qd (qb (zX E (zK (qd (qd ?_))))));refine qb (zX E (qc (qa (qv (qac (s.size) (fun k=>k≤s.size∧∀ j,j<k→qbD (qdm s j)=true) (fun k=>⟨[(0,sv s),(3,iv (k:Int))],[]⟩) (⟨by omega,fun j hj=>absurd hj zO⟩) ?_ (fun k hk hp=>?_))))))
 ·exact zR hL (zC E (zC E SubT.nil)) SubO.nil
 refine qd (qd (qb (zX E (zX E (zA E (qdc E qbA E) (zA E (qj E E E E) (qc ?_)))))));refine qa (qo E (fun c0=>?_) (fun c0=>?_))
 ·simp only[↓cqA,cqB]at c0
  refine qr (qa (qd (qv (qd (qb (zX E (zX E ?_)))))));refine zA E (qeb E qbA E E zO zO) ?_
  refine zX E (zK (qd (qb (zX E (zA E (qj E E E E) (zX E ?_))))));refine qE 16 E (fun g16=>?_) (fun g16=>?_)
  ·simp only[↓cqA,cqB]at g16
   refine zZ E (ql (.inl E) E) (zZ E (qj E E E E) (zA E (qk E E E) (zX E (qE 20 E (fun g20=>?_) (fun g20=>?_)))))
   ·simp only[↓cqA,cqB]at g20
    refine zY E (zY E (zY E (qa8 E E E zD E zD (qa8 E E E zD E zD (zY E (zA E (qk E E E) (zX E (zY E (zY E (zY E (qa8 E E E zD E zD (qa8 E E E zD E zD (zY E (zA E (qk E E E) (zX E (zY E (zY E ?_)))))))))))))))))
    refine zA E (qk E E E) (zA E (qaB E E) (zK (qaA E (qr (qR (qa ?_))))));refine qb (zX E (zA E (qO E E E zO) (zX E (qc ?_))))
    have hin:qbD (qdm s k)=true:=by
     simp [qbD,qcR,qcU,digB];omega
    refine qa ?_;refine ⟨?_,?_,?_⟩
    ·omega
    ·refine ⟨by omega,fun j hj=>?_⟩
     by_cases hjk:j<k
     ·exact hp.2 j hjk
     ·rw [show j=k by omega];exact hin
    exact zR hL (zC E (zC E SubT.nil)) SubO.nil
   simp only[↓cqA,cqB]at g20
   refine zZ E (ql (.inl E) E) (zZ E (qj E E E E) (zZ E (ql (.inl E) E) (qE 23 E (fun g23=>?_) (fun g23=>?_))))
   ·simp only[↓cqA,cqB]at g23
    refine zZ E (ql (.inl E) E) (zZ E (qj E E E E) (zZ E (qk E E E) (zA E (qk E E E) (zX E (qE 28 E (fun g28=>?_) (fun g28=>?_))))))
    ·simp only[↓cqA,cqB]at g28
     refine zY E (zY E (zY E (qa8 E E E zD E zD (qa8 E E E zD E zD (zY E (zA E (qk E E E) (zX E (zY E (zY E (zA E (qk E E E) (zA E (qaB E E) ?_)))))))))))
     refine zK (qaA E (qr (qR (qa (qb (zX E ?_))))));refine zA E (qO E E E zO) (zX E (qc ?_))
     have hin:qbD (qdm s k)=true:=by
      simp [qbD,qcR,qcU,digB];omega
     refine qa ?_;refine ⟨?_,?_,?_⟩
     ·omega
     ·refine ⟨by omega,fun j hj=>?_⟩
      by_cases hjk:j<k
      ·exact hp.2 j hjk
      ·rw [show j=k by omega];exact hin
     exact zR hL (zC E (zC E SubT.nil)) SubO.nil
    simp only[↓cqA,cqB]at g28
    refine zZ E (ql (.inl E) E) (zZ E (qj E E E E) (zZ E (ql (.inl E) E) (qE 31 E (fun g31=>?_) (fun g31=>?_))))
    ·simp only[↓cqA,cqB]at g31
     refine zZ E (ql (.inl E) E) (zZ E (qj E E E E) (zZ E (qk E E E) (zA E (qk E E E) (zX E (qE 36 E (fun g36=>?_) (fun g36=>?_))))))
     ·simp only[↓cqA,cqB]at g36
      refine zY E (zY E (zA E (qk E E E) (zA E (qaB E E) (zK (qaA E (qr ?_))))));refine qR (qa (qb (zX E (zA E (qO E E E zO) (zX E (qc ?_))))))
      have hin:qbD (qdm s k)=true:=by
       simp [qbD,qcR,qcU,digB];omega
      refine qa ?_;refine ⟨?_,?_,?_⟩
      ·omega
      ·refine ⟨by omega,fun j hj=>?_⟩
       by_cases hjk:j<k
       ·exact hp.2 j hjk
       ·rw [show j=k by omega];exact hin
      exact zR hL (zC E (zC E SubT.nil)) SubO.nil
     simp only[↓cqA,cqB]at g36
     refine zZ E (ql (.inl E) E) (zZ E (qj E E E E) (zA E (qk E E E) (zA E (qaB E E) (zK (qo E (fun c1=>?_) (fun c1=>?_))))))
     ·simp only[↓cqA,cqB]at c1
      refine qd (qb (zX E (zK (qn (qP (qm (qm (qP (qm (zI hL (qg E qh) ?_ ?_))))))))))
      ·rfl
      refine ⟨q7 ?_,rfl⟩
      symm;rw [qkj,List.all_eq_false]
      exact ⟨k,by simp;omega,by simp [qbD,qcR,qcU,digB];omega⟩
     simp only[↓cqA,cqB]at c1
     refine qr (qR (qa (qb (zX E (zA E (qO E E E zO) (zX E (qc ?_)))))))
     have hin:qbD (qdm s k)=true:=by
      simp [qbD,qcR,qcU,digB];omega
     refine qa ?_;refine ⟨?_,?_,?_⟩
     ·omega
     ·refine ⟨by omega,fun j hj=>?_⟩
      by_cases hjk:j<k
      ·exact hp.2 j hjk
      ·rw [show j=k by omega];exact hin
     exact zR hL (zC E (zC E SubT.nil)) SubO.nil
    simp only[↓cqA,cqB]at g31
    refine zY E (zY E (zZ E (qk E E E) (zA E (qk E E E) (zX E (zZ E (ql (.inl E) E) (zZ E (qj E E E E) (zA E (qk E E E) (zA E (qaB E E) (zK (qo E (fun c1=>?_) (fun c1=>?_)))))))))))
    ·simp only[↓cqA,cqB]at c1
     refine qd (qb (zX E (zK (qn (qP (qm (qm (qP (qm (zI hL (qg E qh) ?_ ?_))))))))))
     ·rfl
     refine ⟨q7 ?_,rfl⟩
     symm;rw [qkj,List.all_eq_false]
     exact ⟨k,by simp;omega,by simp [qbD,qcR,qcU,digB];omega⟩
    simp only[↓cqA,cqB]at c1
    refine qr (qR (qa (qb (zX E (zA E (qO E E E zO) (zX E (qc ?_)))))))
    have hin:qbD (qdm s k)=true:=by
     simp [qbD,qcR,qcU,digB];omega
    refine qa ?_;refine ⟨?_,?_,?_⟩
    ·omega
    ·refine ⟨by omega,fun j hj=>?_⟩
     by_cases hjk:j<k
     ·exact hp.2 j hjk
     ·rw [show j=k by omega];exact hin
    exact zR hL (zC E (zC E SubT.nil)) SubO.nil
   simp only[↓cqA,cqB]at g23
   refine zY E (zY E (zZ E (qk E E E) (zA E (qk E E E) (zX E (zZ E (ql (.inl E) E) (zZ E (qj E E E E) (zZ E (ql (.inl E) E) (qE 31 E (fun g31=>?_) (fun g31=>?_)))))))))
   ·simp only[↓cqA,cqB]at g31
    refine zZ E (ql (.inl E) E) (zZ E (qj E E E E) (zZ E (qk E E E) (zA E (qk E E E) (zX E (qE 36 E (fun g36=>?_) (fun g36=>?_))))))
    ·simp only[↓cqA,cqB]at g36
     refine zY E (zY E (zA E (qk E E E) (zA E (qaB E E) (zK (qaA E (qr ?_))))));refine qR (qa (qb (zX E (zA E (qO E E E zO) (zX E (qc ?_))))))
     have hin:qbD (qdm s k)=true:=by
      simp [qbD,qcR,qcU,digB];omega
     refine qa ?_;refine ⟨?_,?_,?_⟩
     ·omega
     ·refine ⟨by omega,fun j hj=>?_⟩
      by_cases hjk:j<k
      ·exact hp.2 j hjk
      ·rw [show j=k by omega];exact hin
     exact zR hL (zC E (zC E SubT.nil)) SubO.nil
    simp only[↓cqA,cqB]at g36
    refine zZ E (ql (.inl E) E) (zZ E (qj E E E E) (zA E (qk E E E) (zA E (qaB E E) (zK (qo E (fun c1=>?_) (fun c1=>?_))))))
    ·simp only[↓cqA,cqB]at c1
     refine qd (qb (zX E (zK (qn (qP (qm (qm (qP (qm (zI hL (qg E qh) ?_ ?_))))))))))
     ·rfl
     refine ⟨q7 ?_,rfl⟩
     symm;rw [qkj,List.all_eq_false]
     exact ⟨k,by simp;omega,by simp [qbD,qcR,qcU,digB];omega⟩
    simp only[↓cqA,cqB]at c1
    refine qr (qR (qa (qb (zX E (zA E (qO E E E zO) (zX E (qc ?_)))))))
    have hin:qbD (qdm s k)=true:=by
     simp [qbD,qcR,qcU,digB];omega
    refine qa ?_;refine ⟨?_,?_,?_⟩
    ·omega
    ·refine ⟨by omega,fun j hj=>?_⟩
     by_cases hjk:j<k
     ·exact hp.2 j hjk
     ·rw [show j=k by omega];exact hin
    exact zR hL (zC E (zC E SubT.nil)) SubO.nil
   simp only[↓cqA,cqB]at g31
   refine zY E (zY E (zZ E (qk E E E) (zA E (qk E E E) (zX E (zZ E (ql (.inl E) E) (zZ E (qj E E E E) (zA E (qk E E E) (zA E (qaB E E) (zK (qo E (fun c1=>?_) (fun c1=>?_)))))))))))
   ·simp only[↓cqA,cqB]at c1
    refine qd (qb (zX E (zK (qn (qP (qm (qm (qP (qm (zI hL (qg E qh) ?_ ?_))))))))))
    ·rfl
    refine ⟨q7 ?_,rfl⟩
    symm;rw [qkj,List.all_eq_false]
    exact ⟨k,by simp;omega,by simp [qbD,qcR,qcU,digB];omega⟩
   simp only[↓cqA,cqB]at c1
   refine qr (qR (qa (qb (zX E (zA E (qO E E E zO) (zX E (qc ?_)))))))
   have hin:qbD (qdm s k)=true:=by
    simp [qbD,qcR,qcU,digB];omega
   refine qa ?_;refine ⟨?_,?_,?_⟩
   ·omega
   ·refine ⟨by omega,fun j hj=>?_⟩
    by_cases hjk:j<k
    ·exact hp.2 j hjk
    ·rw [show j=k by omega];exact hin
   exact zR hL (zC E (zC E SubT.nil)) SubO.nil
  simp only[↓cqA,cqB]at g16
  refine zY E (zY E (zA E (qk E E E) (zX E (zZ E (ql (.inl E) E) (zZ E (qj E E E E) (zZ E (ql (.inl E) E) (qE 23 E (fun g23=>?_) (fun g23=>?_))))))))
  ·simp only[↓cqA,cqB]at g23
   refine zZ E (ql (.inl E) E) (zZ E (qj E E E E) (zZ E (qk E E E) (zA E (qk E E E) (zX E (qE 28 E (fun g28=>?_) (fun g28=>?_))))))
   ·simp only[↓cqA,cqB]at g28
    refine zY E (zY E (zY E (qa8 E E E zD E zD (qa8 E E E zD E zD (zY E (zA E (qk E E E) (zX E (zY E (zY E (zA E (qk E E E) (zA E (qaB E E) ?_)))))))))))
    refine zK (qaA E (qr (qR (qa (qb (zX E ?_))))));refine zA E (qO E E E zO) (zX E (qc ?_))
    have hin:qbD (qdm s k)=true:=by
     simp [qbD,qcR,qcU,digB];omega
    refine qa ?_;refine ⟨?_,?_,?_⟩
    ·omega
    ·refine ⟨by omega,fun j hj=>?_⟩
     by_cases hjk:j<k
     ·exact hp.2 j hjk
     ·rw [show j=k by omega];exact hin
    exact zR hL (zC E (zC E SubT.nil)) SubO.nil
   simp only[↓cqA,cqB]at g28
   refine zZ E (ql (.inl E) E) (zZ E (qj E E E E) (zZ E (ql (.inl E) E) (qE 31 E (fun g31=>?_) (fun g31=>?_))))
   ·simp only[↓cqA,cqB]at g31
    refine zZ E (ql (.inl E) E) (zZ E (qj E E E E) (zZ E (qk E E E) (zA E (qk E E E) (zX E (qE 36 E (fun g36=>?_) (fun g36=>?_))))))
    ·simp only[↓cqA,cqB]at g36
     refine zY E (zY E (zA E (qk E E E) (zA E (qaB E E) (zK (qaA E (qr ?_))))));refine qR (qa (qb (zX E (zA E (qO E E E zO) (zX E (qc ?_))))))
     have hin:qbD (qdm s k)=true:=by
      simp [qbD,qcR,qcU,digB];omega
     refine qa ?_;refine ⟨?_,?_,?_⟩
     ·omega
     ·refine ⟨by omega,fun j hj=>?_⟩
      by_cases hjk:j<k
      ·exact hp.2 j hjk
      ·rw [show j=k by omega];exact hin
     exact zR hL (zC E (zC E SubT.nil)) SubO.nil
    simp only[↓cqA,cqB]at g36
    refine zZ E (ql (.inl E) E) (zZ E (qj E E E E) (zA E (qk E E E) (zA E (qaB E E) (zK (qo E (fun c1=>?_) (fun c1=>?_))))))
    ·simp only[↓cqA,cqB]at c1
     refine qd (qb (zX E (zK (qn (qP (qm (qm (qP (qm (zI hL (qg E qh) ?_ ?_))))))))))
     ·rfl
     refine ⟨q7 ?_,rfl⟩
     symm;rw [qkj,List.all_eq_false]
     exact ⟨k,by simp;omega,by simp [qbD,qcR,qcU,digB];omega⟩
    simp only[↓cqA,cqB]at c1
    refine qr (qR (qa (qb (zX E (zA E (qO E E E zO) (zX E (qc ?_)))))))
    have hin:qbD (qdm s k)=true:=by
     simp [qbD,qcR,qcU,digB];omega
    refine qa ?_;refine ⟨?_,?_,?_⟩
    ·omega
    ·refine ⟨by omega,fun j hj=>?_⟩
     by_cases hjk:j<k
     ·exact hp.2 j hjk
     ·rw [show j=k by omega];exact hin
    exact zR hL (zC E (zC E SubT.nil)) SubO.nil
   simp only[↓cqA,cqB]at g31
   refine zY E (zY E (zZ E (qk E E E) (zA E (qk E E E) (zX E (zZ E (ql (.inl E) E) (zZ E (qj E E E E) (zA E (qk E E E) (zA E (qaB E E) (zK (qo E (fun c1=>?_) (fun c1=>?_)))))))))))
   ·simp only[↓cqA,cqB]at c1
    refine qd (qb (zX E (zK (qn (qP (qm (qm (qP (qm (zI hL (qg E qh) ?_ ?_))))))))))
    ·rfl
    refine ⟨q7 ?_,rfl⟩
    symm;rw [qkj,List.all_eq_false]
    exact ⟨k,by simp;omega,by simp [qbD,qcR,qcU,digB];omega⟩
   simp only[↓cqA,cqB]at c1
   refine qr (qR (qa (qb (zX E (zA E (qO E E E zO) (zX E (qc ?_)))))))
   have hin:qbD (qdm s k)=true:=by
    simp [qbD,qcR,qcU,digB];omega
   refine qa ?_;refine ⟨?_,?_,?_⟩
   ·omega
   ·refine ⟨by omega,fun j hj=>?_⟩
    by_cases hjk:j<k
    ·exact hp.2 j hjk
    ·rw [show j=k by omega];exact hin
   exact zR hL (zC E (zC E SubT.nil)) SubO.nil
  simp only[↓cqA,cqB]at g23
  refine zY E (zY E (zZ E (qk E E E) (zA E (qk E E E) (zX E (zZ E (ql (.inl E) E) (zZ E (qj E E E E) (zZ E (ql (.inl E) E) (qE 31 E (fun g31=>?_) (fun g31=>?_)))))))))
  ·simp only[↓cqA,cqB]at g31
   refine zZ E (ql (.inl E) E) (zZ E (qj E E E E) (zZ E (qk E E E) (zA E (qk E E E) (zX E (qE 36 E (fun g36=>?_) (fun g36=>?_))))))
   ·simp only[↓cqA,cqB]at g36
    refine zY E (zY E (zA E (qk E E E) (zA E (qaB E E) (zK (qaA E (qr ?_))))));refine qR (qa (qb (zX E (zA E (qO E E E zO) (zX E (qc ?_))))))
    have hin:qbD (qdm s k)=true:=by
     simp [qbD,qcR,qcU,digB];omega
    refine qa ?_;refine ⟨?_,?_,?_⟩
    ·omega
    ·refine ⟨by omega,fun j hj=>?_⟩
     by_cases hjk:j<k
     ·exact hp.2 j hjk
     ·rw [show j=k by omega];exact hin
    exact zR hL (zC E (zC E SubT.nil)) SubO.nil
   simp only[↓cqA,cqB]at g36
   refine zZ E (ql (.inl E) E) (zZ E (qj E E E E) (zA E (qk E E E) (zA E (qaB E E) (zK (qo E (fun c1=>?_) (fun c1=>?_))))))
   ·simp only[↓cqA,cqB]at c1
    refine qd (qb (zX E (zK (qn (qP (qm (qm (qP (qm (zI hL (qg E qh) ?_ ?_))))))))))
    ·rfl
    refine ⟨q7 ?_,rfl⟩
    symm;rw [qkj,List.all_eq_false]
    exact ⟨k,by simp;omega,by simp [qbD,qcR,qcU,digB];omega⟩
   simp only[↓cqA,cqB]at c1
   refine qr (qR (qa (qb (zX E (zA E (qO E E E zO) (zX E (qc ?_)))))))
   have hin:qbD (qdm s k)=true:=by
    simp [qbD,qcR,qcU,digB];omega
   refine qa ?_;refine ⟨?_,?_,?_⟩
   ·omega
   ·refine ⟨by omega,fun j hj=>?_⟩
    by_cases hjk:j<k
    ·exact hp.2 j hjk
    ·rw [show j=k by omega];exact hin
   exact zR hL (zC E (zC E SubT.nil)) SubO.nil
  simp only[↓cqA,cqB]at g31
  refine zY E (zY E (zZ E (qk E E E) (zA E (qk E E E) (zX E (zZ E (ql (.inl E) E) (zZ E (qj E E E E) (zA E (qk E E E) (zA E (qaB E E) (zK (qo E (fun c1=>?_) (fun c1=>?_)))))))))))
  ·simp only[↓cqA,cqB]at c1
   refine qd (qb (zX E (zK (qn (qP (qm (qm (qP (qm (zI hL (qg E qh) ?_ ?_))))))))))
   ·rfl
   refine ⟨q7 ?_,rfl⟩
   symm;rw [qkj,List.all_eq_false]
   exact ⟨k,by simp;omega,by simp [qbD,qcR,qcU,digB];omega⟩
  simp only[↓cqA,cqB]at c1
  refine qr (qR (qa (qb (zX E (zA E (qO E E E zO) (zX E (qc ?_)))))))
  have hin:qbD (qdm s k)=true:=by
   simp [qbD,qcR,qcU,digB];omega
  refine qa ?_;refine ⟨?_,?_,?_⟩
  ·omega
  ·refine ⟨by omega,fun j hj=>?_⟩
   by_cases hjk:j<k
   ·exact hp.2 j hjk
   ·rw [show j=k by omega];exact hin
  exact zR hL (zC E (zC E SubT.nil)) SubO.nil
 simp only[↓cqA,cqB]at c0
 refine qV (qq (qq (qad ?_)));refine qa (qd (qb (zX E (zK (qn (zI hL (qg E qh) ?_ ?_))))))
 ·rfl
 refine ⟨q7 ?_,rfl⟩
 symm;rw [qkj,List.all_eq_true]
 intro j hj
 exact hp.2 j (by simp at hj;omega)
def qlU (a b x:Int):Bool:=decide (a≤x∧x≤b)
theorem qpQ (s:ByteArray)(a b:Int):PF 71 [sv s,uv a,uv b] (bv (qjI (qlU a b) s)):=by
 have hb:∀ p:Int→Bool,qjI p s=(decide (s.size≠0)&&decide (s.size≤16)&&p (qdm s 0)&&qkj s):=fun p=>rfl
 refine qI Tryz.func71 E Tryz.ntmps71 zL fun c hL hQ hDD=>(qd (qb (zX E (zK (qd (qd ?_))))));refine qb (zX E (zA E (qdc E qbA E) (zA E (qj E E E E) (zX E (qE 10 E (fun g10=>?_) (fun g10=>?_))))))
 ·simp only[↓cqA,cqB]at g10
  refine zY E (zY E (zY E (zA E (qk E E E) (zX E (zY E (zY E (zY E (zY E (zA E (qk E E E) (zX E (zY E ?_)))))))))))
  refine zY E (zY E (zY E (zA E (qk E E E) (zK (qa2 E (qd ?_))))));refine qb (zX E (zK (qn (qm (zI hL (qg E qh) ?_ ?_)))))
  ·rfl
  refine ⟨q7 ?_,rfl⟩
  symm;rw [hb];simp only [Bool.and_eq_false_iff,decide_eq_false_iff_not,qlU];omega
 simp only[↓cqA,cqB]at g10
 refine zZ E (ql (.inl E) E) (zZ E (qdc E qbA E) (zZ E (qj E E E E) (zA E (qk E E E) (zX E (qE 15 E (fun g15=>?_) (fun g15=>?_))))))
 ·simp only[↓cqA,cqB]at g15
  refine zY E (zY E (zY E (zY E (zA E (qk E E E) (zX E ?_)))))
  refine zY E (zY E (zY E (zY E (zA E (qk E E E) (zK (qa2 E ?_))))));refine qd (qb (zX E (zK (qn (qm (zI hL (qg E qh) ?_ ?_))))))
  ·rfl
  refine ⟨q7 ?_,rfl⟩
  symm;rw [hb];simp only [Bool.and_eq_false_iff,decide_eq_false_iff_not,qlU];omega
 simp only[↓cqA,cqB]at g15
 refine zZ E (ql (.inl E) E) (zZ E (qeb E qbA E E zD zO) (zZ E (ql (.inl E) E) (zZ E (qj E E E E) (zA E (qk E E E) (zX E (qE 21 E (fun g21=>?_) (fun g21=>?_)))))))
 ·simp only[↓cqA,cqB]at g21
  refine zY E (zY E (zY E (zY E (zA E (qk E E E) (zK (qa2 E ?_))))));refine qd (qb (zX E (zK (qn (qm (zI hL (qg E qh) ?_ ?_))))))
  ·rfl
  refine ⟨q7 ?_,rfl⟩
  symm;rw [hb];simp only [Bool.and_eq_false_iff,decide_eq_false_iff_not,qlU];omega
 simp only[↓cqA,cqB]at g21
 refine zZ E (ql (.inl E) E) (zZ E (qeb E qbA E E zD zO) (zZ E (ql (.inl E) E) (zZ E (qj E E E E) (zA E (qk E E E) (zK (qo E (fun c0=>?_) (fun c0=>?_)))))))
 ·simp only[↓cqA,cqB]at c0
  refine qd (qb (zX E (zK (qn (qm (zI hL (qg E qh) ?_ ?_))))))
  ·rfl
  refine ⟨q7 ?_,rfl⟩
  symm;rw [hb];simp only [Bool.and_eq_false_iff,decide_eq_false_iff_not,qlU];omega
 simp only[↓cqA,cqB]at c0
 refine qr (qa (qd (qb (zX E (qH (avs:=[_]) true E E E zD qhO E E (rtail_ok _ zO) E E (zX E (qc ?_)))))));refine qa (qn (zI hL (qg E qh) ?_ ?_))
 ·rfl
 refine ⟨q7 ?_,rfl⟩
 have e1:decide (s.size≠0)=true:=decide_eq_true (by omega)
 have e2:decide (s.size≤16)=true:=decide_eq_true (by omega)
 have e3:qlU a b (qdm s 0)=true:=decide_eq_true (by omega)
 rw [hb,e1,e2,e3];simp
theorem rName_ok (s:ByteArray):PF 28 [sv s] (bv (qnP s)):=by
 refine qI Tryz.func28 E Tryz.ntmps28 zL fun c hL hQ hDD=>(qd (qb (zX E (zK (qd (qb ?_))))));refine zX E (qH (avs:=[_,_,_]) true E E E zD qe0 E E (qpQ _ _ _) E E (zX E (zK (qn (zI hL (qg E qh) ?_ ?_)))))
 ·rfl
 exact ⟨rfl,rfl⟩
theorem rVar_ok (s:ByteArray):PF 220 [sv s] (bv (varB s)):=by
 refine qI Tryz.func220 E Tryz.ntmps220 zL fun c hL hQ hDD=>(qd (qb (zX E (zK (qd (qb ?_))))));refine zX E (qH (avs:=[_,_,_]) true E E E zD qe0 E E (qpQ _ _ _) E E (zX E (zK (qn (zI hL (qg E qh) ?_ ?_)))))
 ·rfl
 exact ⟨rfl,rfl⟩
def qdp (f:Tm→Int):Int→List Tm→Int
 | n,[]=>n
 | n,a::l=>if n≤24 then qdp f (n+f a) l else n
def qbT:Nat→Tm→Int
 | 0,_=>25
 | d+1,t=>
   if t.kind=1 then (if varB t.name=true∧t.n=0∧t.args.length=0 then 1 else 25)
   else if t.kind=2 then (if t.name.size=0∧(-1073741824≤t.n∧t.n≤1073741824)∧t.args.length=0 then 1 else 25)
   else if t.kind=3 then (if qnP t.name=false∨t.n≠0∨4<t.args.length∨(0<t.args.length∧d=0) then 25 else qdp (qbT d) 1 t.args)
   else 25
theorem qit (f:Tm→Int)(h:∀ t,0≤f t):∀ (n:Int) (l:List Tm),n≤qdp f n l
 | n,[]=>by simp [qdp]
 | n,a::l=>by
   simp only [qdp]
   split
   ·have:=qit f h (n+f a) l
    have:=h a;omega
   ·omega
theorem qlN (f:Tm→Int)(n:Int)(l:List Tm)(h:¬ n≤24):qdp f n l=n:=by
 cases l with
 | nil=>rfl
 | cons a l=>simp [qdp,h]
theorem qj3 (f:Tm→Int)(B:Int)(hB:0≤B):∀ (n:Int) (l:List Tm),(∀ t,f t≤B)→n≤24+B→qdp f n l≤24+B
 | n,[],_,h0=>h0
 | n,a::l,h,h0=>by
   simp only [qdp]
   split
   ·exact qj3 f B hB _ l h (by have:=h a;omega)
   ·exact h0
theorem qfy:∀ (d:Nat) (t:Tm),1≤qbT d t
 | 0,_=>by simp [qbT]
 | d+1,t=>by
   simp only [qbT]
   split
   ·split<;>omega
   split
   ·split<;>omega
   split
   ·split
    ·omega
    ·have:=qit (qbT d) (fun t=>by have:=qfy d t;omega) 1 t.args;omega
   ·omega
theorem qis:∀ (d:Nat) (t:Tm),qbT d t≤25+24*d
 | 0,_=>by simp [qbT]
 | d+1,t=>by
   simp only [qbT]
   push_cast
   split
   ·split<;>omega
   split
   ·split<;>omega
   split
   ·split
    ·omega
    ·have:=qj3 (qbT d) (25+24*d) (by omega) 1 t.args (fun t=>qis d t) (by omega);omega
   ·omega
theorem qjc (f:Tm→Int)(n:Int)(l:List Tm)(k:Nat)(hk:k≤l.length)(h:∀ j,j<k→qdp f n (l.take j)≤24):qdp f n l=qdp f (qdp f n (l.take k)) (l.drop k):=by
 induction k generalizing n l with
 | zero=>simp [qdp]
 | succ k ih=>
   cases l with
   | nil=>simp at hk
   | cons a l=>
     have h0:n≤24:=by have:=h 0 (by omega);simpa [qdp] using this
     simp only [List.take_succ_cons,List.drop_succ_cons,qdp,if_pos h0]
     refine ih _ l (by simpa using hk) fun j hj=>?_
     have:=h (j+1) (by omega)
     simpa [qdp,h0] using this
theorem qlO (f:Tm→Int)(n:Int)(l:List Tm)(a:Tm)(h:∀ j,j≤l.length→qdp f n (l.take j)≤24):qdp f n (l++[a])=qdp f n l+f a:=by
 have h1:=qjc f n (l++[a]) l.length (by simp) (fun j hj=>by
  have:=h j (by omega)
  rwa [List.take_append_of_le_length (by omega)])
 have h2:=h l.length (Nat.le_refl _)
 simp only [List.take_length] at h2
 simp only [List.take_left,List.drop_left] at h1
 rw [h1]
 simp [qdp,h2]
def SizeC (d:Nat):Prop:=∀ (e:Int),e=d→∀ (t:Tm),t.wf→PF 157 [tmA false t,iv e] (iv (qbT d t))
theorem rsize_ok:∀ d:Nat,1≤d→d≤5→SizeC d:=by
 intro d
 induction d with
 | zero=>intro h;omega
 | succ d ih=>
   intro _ hd e he t ht
   have hlen:=qaY t.args
   have hal:=ht.2.2.2.1
   refine qI Tryz.func157 E Tryz.ntmps157 zL fun c hL hQ hDD=>(qd (qb (qt E E zD (q6 2 E E E) E (zX E (zK (qd ?_))))));refine qd (qb (zA E (qe E qaL E) (zA E (qi E qQ E E E E E) ?_)))
   refine zK (qv (qd (qb (zA E (qj E E E E) (zX E (qc ?_))))));refine qa (qo E (fun c0=>?_) (fun c0=>?_))
   ·simp only[↓cqA,cqB]at c0
    refine qd (qb (zA E (qe E qay E) (zA E (qi E qar E E E E E) (qH (avs:=[_]) true E E E zD qie E E (rVar_ok _) E E (zX E (qE 14 E (fun g14=>?_) (fun g14=>?_)))))))
    ·refine zZ E (qe E qbb E) (zZ E (qi E qQ E E E E E) (zZ E (qj E E E E) (zA E (qk E E E) (zX E (qE 19 E (fun g19=>?_) (fun g19=>?_))))))
     ·simp only[↓cqA,cqB]at g19
      refine zZ E (qe E qaa E) (zZ E (qi E q9 E E E E E) (zZ E (qu E qN E) (zZ E (qj E E E E) (zA E (qk E E E) (zK (qo E (fun c1=>?_) (fun c1=>?_)))))))
      ·simp only[↓cqA,cqB]at c1
       refine qd (qb (zX E (zK (qn (qP (qm (zI hL (qg E qh) ?_ ?_)))))))
       ·rfl
       refine ⟨qbx ?_,rfl⟩
       rw [qbT];repeat' split
       all_goals first|rfl|omega|exact hfin|(simp_all;done)|(simp_all;omega)
      simp only[↓cqA,cqB]at c1
      refine qr (qR (qa (qd (qb (zX E (zK ?_))))));refine qn (zI hL (qg E qh) ?_ ?_)
      ·rfl
      refine ⟨qbx ?_,rfl⟩
      rw [qbT];repeat' split
      all_goals first|rfl|omega|exact hfin|(simp_all;done)|(simp_all;omega)
     simp only[↓cqA,cqB]at g19
     refine zY E (zY E (zY E (zY E (zA E (qk E E E) (zK (qaA E ?_))))))
     refine qr (qR (qa (qd (qb (zX E (zK ?_))))));refine qn (zI hL (qg E qh) ?_ ?_)
     ·rfl
     refine ⟨qbx ?_,rfl⟩
     rw [qbT];repeat' split
     all_goals first|rfl|omega|exact hfin|(simp_all;done)|(simp_all;omega)
    refine zY E (zY E (zY E (zA E (qk E E E) (zX E (zY E ?_)))))
    refine zY E (zY E (zY E (zA E (qk E E E) (zK (qaA E (qr ?_))))));refine qR (qa (qd (qb (zX E (zK (qn (zI hL (qg E qh) ?_ ?_)))))))
    ·rfl
    refine ⟨qbx ?_,rfl⟩
    rw [qbT];repeat' split
    all_goals first|rfl|omega|exact hfin|(simp_all;done)|(simp_all;omega)
   simp only[↓cqA,cqB]at c0
   refine qd (qb (zA E (qj E E E E) (zX E (zK (qo E (fun c2=>?_) (fun c2=>?_))))))
   ·simp only[↓cqA,cqB]at c2
    refine qd (qb (zA E (qe E qay E) (zA E (qi E qar E E E E E) (zA E (qcH E E E E) (zX E (qE 30 E (fun g30=>?_) (fun g30=>?_)))))))
    ·simp only[↓cqA,cqB]at g30
     have g30:=qfV.2 g30
     refine zZ E (qe E qbb E) (zZ E (qi E qQ E E E E E) (zZ E (qai (avs:=[_,_,_]) true E qdf E E (qjq _ _ _) (fun _=>rfl) E) (zA E (qk E E E) (zX E (qE 35 E (fun g35=>?_) (fun g35=>?_))))))
     ·simp only[↓cqA,cqB]at g35
      refine zZ E (qe E qaa E) (zZ E (qi E q9 E E E E E) (zZ E (qu E qN E) (zZ E (qj E E E E) (zA E (qk E E E) (zK (qo E (fun c3=>?_) (fun c3=>?_)))))))
      ·simp only[↓cqA,cqB]at c3
       refine qd (qb (zX E (zK (qn (qP (qm (zI hL (qg E qh) ?_ ?_)))))))
       ·rfl
       refine ⟨qbx ?_,rfl⟩
       rw [qbT];repeat' split
       all_goals first|rfl|omega|exact hfin|(simp_all;done)|(simp_all;omega)
      simp only[↓cqA,cqB]at c3
      refine qr (qR (qa (qd (qb (zX E (zK ?_))))));refine qn (zI hL (qg E qh) ?_ ?_)
      ·rfl
      refine ⟨qbx ?_,rfl⟩
      rw [qbT];repeat' split
      all_goals first|rfl|omega|exact hfin|(simp_all;done)|(simp_all;omega)
     simp only[↓cqA,cqB]at g35
     refine zY E (zY E (zY E (zY E (zA E (qk E E E) (zK (qaA E ?_))))))
     refine qr (qR (qa (qd (qb (zX E (zK ?_))))));refine qn (zI hL (qg E qh) ?_ ?_)
     ·rfl
     refine ⟨qbx ?_,rfl⟩
     rw [qbT];repeat' split
     all_goals first|rfl|omega|exact hfin|(simp_all;done)|(simp_all;omega)
    simp only[↓cqA,cqB]at g30
    have g30:=mt qfV.1 g30
    refine zY E (zY E (zY E (zA E (qk E E E) (zX E (zY E ?_)))))
    refine zY E (zY E (zY E (zA E (qk E E E) (zK (qaA E (qr ?_))))));refine qR (qa (qd (qb (zX E (zK (qn (zI hL (qg E qh) ?_ ?_)))))))
    ·rfl
    refine ⟨qbx ?_,rfl⟩
    rw [qbT];repeat' split
    all_goals first|rfl|omega|exact hfin|(simp_all;done)|(simp_all;omega)
   simp only[↓cqA,cqB]at c2
   refine qd (qb (zA E (qj E E E E) (zX E (zK (qo E (fun c4=>?_) (fun c4=>?_))))))
   ·simp only[↓cqA,cqB]at c4
    refine qd (qd (qb (zA E (qe E qay E) (zA E (qi E qar E E E E E) (qH (avs:=[_]) true E E E zD qhP E E (rName_ok _) E E (zA E (qaB E E) (zX E ?_)))))));refine qE 47 E (fun g47=>?_) (fun g47=>?_)
    ·simp only[↓cqA,cqB]at g47
     refine zY E (zY E (zY E (zA E (qk E E E) (zX E (zY E (zY E (zY E (zY E (zA E (qk E E E) (zX E (zY E (zY E (zY E (zY E (zY E (qa8 E E E zD E zD (qa8 E E E zD E zD ?_)))))))))))))))))
     refine zY E (zA E (qk E E E) (zK (qa2 E (qd (qb (zX E ?_))))));refine zK (qn (qm (qP (qm (zI hL (qg E qh) ?_ ?_)))))
     ·rfl
     refine ⟨qbx ?_,rfl⟩
     rw [qbT];repeat' split
     all_goals first|rfl|omega|exact hfin|(simp_all;done)|(simp_all;omega)
    simp only[↓cqA,cqB]at g47
    refine zZ E (qe E qbb E) (zZ E (qi E qQ E E E E E) (zZ E (qj E E E E) (zA E (qk E E E) (zX E (qE 52 E (fun g52=>?_) (fun g52=>?_))))))
    ·simp only[↓cqA,cqB]at g52
     refine zY E (zY E (zY E (zY E (zA E (qk E E E) (zX E (zY E (zY E (zY E (zY E (zY E (qa8 E E E zD E zD ?_)))))))))))
     refine qa8 E E E zD E zD (zY E (zA E (qk E E E) (zK (qa2 E (qd (qb ?_))))));refine zX E (zK (qn (qm (qP (qm (zI hL (qg E qh) ?_ ?_))))))
     ·rfl
     refine ⟨qbx ?_,rfl⟩
     rw [qbT];repeat' split
     all_goals first|rfl|omega|exact hfin|(simp_all;done)|(simp_all;omega)
    simp only[↓cqA,cqB]at g52
    refine zZ E (qe E qaa E) (zZ E (qi E q9 E E E E E) (zZ E (qu E qN E) (zZ E (qj E E E E) (zA E (qk E E E) (zX E (qE 58 E (fun g58=>?_) (fun g58=>?_)))))))
    ·simp only[↓cqA,cqB]at g58
     refine zY E (zY E (zY E (zY E (zY E (qa8 E E E zD E zD ?_)))))
     refine qa8 E E E zD E zD (zY E (zA E (qk E E E) (zK (qa2 E (qd (qb ?_))))));refine zX E (zK (qn (qm (qP (qm (zI hL (qg E qh) ?_ ?_))))))
     ·rfl
     refine ⟨qbx ?_,rfl⟩
     rw [qbT];repeat' split
     all_goals first|rfl|omega|exact hfin|(simp_all;done)|(simp_all;omega)
    simp only[↓cqA,cqB]at g58
    refine zZ E (qe E qaa E) (zZ E (qi E q9 E E E E E) (zZ E (qu E qN E) (zZ E (qj E E E E) (zZ E (ql (.inl E) E) (qE 63 E (fun g63=>?_) (fun g63=>?_))))))
    ·simp only[↓cqA,cqB]at g63
     refine zZ E (ql (.inl E) E) (zZ E (qj E E E E) (zZ E (qk E E E) (zA E (qk E E E) (zK (qo E (fun c5=>?_) (fun c5=>?_))))))
     ·simp only[↓cqA,cqB]at c5
      refine qd (qb (zX E (zK (qn (qm (qP (qm (zI hL (qg E qh) ?_ ?_))))))))
      ·rfl
      refine ⟨qbx ?_,rfl⟩
      rw [qbT];repeat' split
      all_goals first|rfl|omega|exact hfin|(simp_all;done)|(simp_all;omega)
     simp only[↓cqA,cqB]at c5
     refine qr (qa (qd (qb (zX E (zK (qd ?_))))));refine qd (qb (zX E (zK (qv (qac (t.args.length) (fun k=>k≤t.args.length∧∀ j,j<k→qdp (qbT d) 1 (t.args.take j)≤24) (fun k=>⟨[(1,iv e),(2,.ptr 2 0),(5,iv (qdp (qbT d) 1 (t.args.take k))),(6,iv (k:Int))],[(2,.box (lift false (tmD t)))]⟩) (⟨by omega,fun j hj=>absurd hj zO⟩) ?_ (fun k hk hp=>?_))))))
     ·exact zR hL (zC E (zC E (zC E (zC E SubT.nil)))) (SubO.cons (qU E (by rfl)) SubO.nil)
     have hw:=qj3 (qbT d) (25+24*d) (by omega) 1 (t.args.take k) (fun t=>qis d t) (by omega)
     have hw0:=qit (qbT d) (fun t=>by have:=qfy d t;omega) 1 (t.args.take k)
     refine qd (qd (qb (zX E (zA E (qe E qaa E) (zA E (qi E q9 E E E E E) (zA E (qu E qN E) (zA E (qj E E E E) ?_)))))));refine zX E (qE 73 E (fun g73=>?_) (fun g73=>?_))
     ·simp only[↓cqA,cqB]at g73
      obtain ⟨u,hu⟩:=qM (l:=t.args) (k:=k) (by omega)
      have huw:=qis d u
      have huw0:=qfy d u
      refine zZ E (ql (.inl E) E) (zZ E (qj E E E E) (zA E (qk E E E) (zK (qo E (fun c6=>?_) (fun c6=>?_)))))
      ·simp only[↓cqA,cqB]at c6
       refine qr (qa (qd (qv (qb (zX E (zA E (qe E qaa E) (zA E (qi E q9 E E E E E) ?_)))))));refine zX E (zA E (qp E qN E E zO (qbP hu)) (zA E (qD E qz E E) (zX E (zA E (qa3 E E E zO) (qH (avs:=[_,_]) true E E E zD qdQ E E (ih zO zO _ zO u (Tm.wfs_get ht.2.2.2.2 hu)) E E ?_)))))
       refine zA E (qO E E E zO) (zX E (qc (qR (qa (qb (zX E (zA E (qO E E E zO) ?_)))))));refine zX E (qc ?_)
       have hb:=qlO (qbT d) 1 (t.args.take k) u (fun j hj=>by
        by_cases hjk:j<k
        ·have:=hp.2 j hjk;rwa [List.take_take,Nat.min_eq_left (by omega)]
        ·rw [List.take_of_length_le (by simp;omega)];omega)
       rw [← qas hu] at hb
       refine qa ?_;refine ⟨?_,?_,?_⟩
       ·omega
       ·refine ⟨by omega,fun j hj=>?_⟩
        by_cases hjk:j<k
        ·exact hp.2 j hjk
        ·rw [show j=k by omega];omega
       exact zR hL (zC E (zC E (SubT.cons (qaw E (by exact qan hb.symm)) (zC E SubT.nil)))) (SubO.cons (qU E (by rfl)) SubO.nil)
      simp only[↓cqA,cqB]at c6
      have hfin:qdp (qbT d) 1 (t.args.take k)=qdp (qbT d) 1 t.args:=((qjc (qbT d) _ _ k hp.1 hp.2).trans (qlN _ _ _ (by omega))).symm
      refine qV (qq (qq (qad ?_)));refine qa (qd (qb (zX E (zX E (zK (qn ?_))))));refine qP (qm (zI hL (qg E qh) ?_ ?_))
      ·rfl
      refine ⟨qbx ?_,rfl⟩
      rw [qbT];repeat' split
      all_goals first|rfl|omega|exact hfin|(simp_all;done)|(simp_all;omega)
     simp only[↓cqA,cqB]at g73
     have hfin:qdp (qbT d) 1 (t.args.take k)=qdp (qbT d) 1 t.args:=by rw [List.take_of_length_le (by omega)]
     refine zY E (zY E (zA E (qk E E E) (zK (qaA E (qV (qq (qq (qad ?_))))))));refine qa (qd (qb (zX E (zX E (zK (qn (qP (qm (zI hL (qg E qh) ?_ ?_)))))))))
     ·rfl
     refine ⟨qbx ?_,rfl⟩
     rw [qbT];repeat' split
     all_goals first|rfl|omega|exact hfin|(simp_all;done)|(simp_all;omega)
    simp only[↓cqA,cqB]at g63
    refine zY E (zY E (zZ E (qk E E E) (zA E (qk E E E) (zK (qaA E (qr ?_))))));refine qa ?_
    refine qd (qb (zX E (zK (qd (qd (qb ?_))))));refine zX E (zK (qv (qac (t.args.length) (fun k=>k≤t.args.length∧∀ j,j<k→qdp (qbT d) 1 (t.args.take j)≤24) (fun k=>⟨[(1,iv e),(2,.ptr 2 0),(5,iv (qdp (qbT d) 1 (t.args.take k))),(6,iv (k:Int))],[(2,.box (lift false (tmD t)))]⟩) (⟨by omega,fun j hj=>absurd hj zO⟩) ?_ (fun k hk hp=>?_))))
    ·exact zR hL (zC E (zC E (zC E (zC E SubT.nil)))) (SubO.cons (qU E (by rfl)) SubO.nil)
    have hw:=qj3 (qbT d) (25+24*d) (by omega) 1 (t.args.take k) (fun t=>qis d t) (by omega)
    have hw0:=qit (qbT d) (fun t=>by have:=qfy d t;omega) 1 (t.args.take k)
    refine qd (qd (qb (zX E (zA E (qe E qaa E) (zA E (qi E q9 E E E E E) (zA E (qu E qN E) (zA E (qj E E E E) ?_)))))));refine zX E (qE 73 E (fun g73=>?_) (fun g73=>?_))
    ·simp only[↓cqA,cqB]at g73
     obtain ⟨u,hu⟩:=qM (l:=t.args) (k:=k) (by omega)
     have huw:=qis d u
     have huw0:=qfy d u
     refine zZ E (ql (.inl E) E) (zZ E (qj E E E E) (zA E (qk E E E) (zK (qo E (fun c6=>?_) (fun c6=>?_)))))
     ·simp only[↓cqA,cqB]at c6
      refine qr (qa (qd (qv (qb (zX E (zA E (qe E qaa E) (zA E (qi E q9 E E E E E) ?_)))))));refine zX E (zA E (qp E qN E E zO (qbP hu)) (zA E (qD E qz E E) (zX E (zA E (qa3 E E E zO) (qH (avs:=[_,_]) true E E E zD qdQ E E (ih zO zO _ zO u (Tm.wfs_get ht.2.2.2.2 hu)) E E ?_)))))
      refine zA E (qO E E E zO) (zX E (qc (qR (qa (qb (zX E (zA E (qO E E E zO) ?_)))))));refine zX E (qc ?_)
      have hb:=qlO (qbT d) 1 (t.args.take k) u (fun j hj=>by
       by_cases hjk:j<k
       ·have:=hp.2 j hjk;rwa [List.take_take,Nat.min_eq_left (by omega)]
       ·rw [List.take_of_length_le (by simp;omega)];omega)
      rw [← qas hu] at hb
      refine qa ?_;refine ⟨?_,?_,?_⟩
      ·omega
      ·refine ⟨by omega,fun j hj=>?_⟩
       by_cases hjk:j<k
       ·exact hp.2 j hjk
       ·rw [show j=k by omega];omega
      exact zR hL (zC E (zC E (SubT.cons (qaw E (by exact qan hb.symm)) (zC E SubT.nil)))) (SubO.cons (qU E (by rfl)) SubO.nil)
     simp only[↓cqA,cqB]at c6
     have hfin:qdp (qbT d) 1 (t.args.take k)=qdp (qbT d) 1 t.args:=((qjc (qbT d) _ _ k hp.1 hp.2).trans (qlN _ _ _ (by omega))).symm
     refine qV (qq (qq (qad ?_)));refine qa (qd (qb (zX E (zX E (zK (qn ?_))))));refine qP (qm (zI hL (qg E qh) ?_ ?_))
     ·rfl
     refine ⟨qbx ?_,rfl⟩
     rw [qbT];repeat' split
     all_goals first|rfl|omega|exact hfin|(simp_all;done)|(simp_all;omega)
    simp only[↓cqA,cqB]at g73
    have hfin:qdp (qbT d) 1 (t.args.take k)=qdp (qbT d) 1 t.args:=by rw [List.take_of_length_le (by omega)]
    refine zY E (zY E (zA E (qk E E E) (zK (qaA E (qV (qq (qq (qad ?_))))))));refine qa (qd (qb (zX E (zX E (zK (qn (qP (qm (zI hL (qg E qh) ?_ ?_)))))))))
    ·rfl
    refine ⟨qbx ?_,rfl⟩
    rw [qbT];repeat' split
    all_goals first|rfl|omega|exact hfin|(simp_all;done)|(simp_all;omega)
   simp only[↓cqA,cqB]at c4
   refine qr (qR (qa (qd (qb (zX E (zK ?_))))));refine qn (zI hL (qg E qh) ?_ ?_)
   ·rfl
   refine ⟨qbx ?_,rfl⟩
   rw [qbT];repeat' split
   all_goals first|rfl|omega|exact hfin|(simp_all;done)|(simp_all;omega)
end Go.Proofs.YtpgceiijoedppaaGreat