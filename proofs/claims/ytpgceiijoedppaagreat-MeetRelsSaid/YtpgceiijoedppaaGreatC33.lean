/- Part 33 of the proof: Je, Jf, Jg, Mj. -/
import Derived.Test.YtpgceiijoedppaaGreatC32
set_option linter.unusedVariables false
set_option linter.unusedSimpArgs false
set_option maxRecDepth 8000
namespace Go.Proofs.YtpgceiijoedppaaGreat
open Go
variable {l:List Kp}
theorem qdK {a b:Ft}(ha:qer a=true)(hb:qer b=true):qd6 a b=eqF a b:=by
 rw [Bool.eq_iff_iff,← qol (qd8 ha).2.2,cmpF_eq (qd8 ha).2.2]
 exact ⟨qrN ha hb,fun e=>by rw [e,qoR]⟩
theorem qir {j:Nat}{x:Kp}(h:qfv l j=true)(hx:l[j]?=some x):qer x.f=true:=by
 rw [qbM hx] at h
 simp only [Bool.and_eq_true] at h
 exact h.1.1.1
theorem qrS (l:List Kp)(hll:l.length≤1000000000)(hw:∀ k∈l,k.wf):PF 20 [.dat false 7 (kpDs l)] (bv (qcA l)):=by
  have hlen:=qc3 l
  have hbad:∀ j,j<l.length→qfv l j=false→qcA l=false:=fun j hj h=>by
    have:(List.range l.length).all (qfv l)=false:=List.all_eq_false.2 ⟨j,by simpa using hj,by simp [h]⟩
    rw [qcA,this];simp
  refine qI Tryz.func20 E Tryz.ntmps20 zL fun c hL hQ hDD=>(qd (qb (zX E (zK (qd (qd ?_))))));refine qb (zX E (qc (qa (qv (qac (301) (fun k=>k≤l.length∧k≤301∧∀ j,j<k→qfv l j=true) (fun k=>⟨[(0,.dat false 7 (kpDs l)),(3,iv (k:Int))],[]⟩) (⟨by omega,by omega,fun j hj=>absurd hj zO⟩) ?_ (fun k hk hp=>?_))))))
  · exact zR hL (zC E (zC E SubT.nil)) SubO.nil
  refine qd (qd (qb (zX E (zX E (zA E (qu E qaf E) (zA E (qj E E E E) (zX E ?_)))))));refine qE 9 E (fun g9=>?_) (fun g9=>?_)
  · simp only[↓cqA,cqB]at g9
    refine zZ E (ql (.inl E) E) (zZ E (qj E E E E) (zA E (qk E E E) (zK (qo E (fun c0=>?_) (fun c0=>?_)))))
    · simp only[↓cqA,cqB]at c0
      obtain ⟨u,hu⟩:=qM (l:=l) (k:=k) (by omega)
      have huw:=hw u (List.mem_of_getElem? hu)
      have huf:=huw.2
      obtain ⟨y,hy⟩:=qM (l:=l) (k:=k-1) (by omega)
      have hy2:l[((k:Int)-1).toNat]?=some y:=by rw [show ((k:Int)-1).toNat=k-1 by omega];exact hy
      refine qr (qa (qd (qv (qd (qd ?_)))))
      rcases Bool.eq_false_or_eq_true (qer u.f) with l20|l20
      · have m20:=l20
        rcases Bool.eq_false_or_eq_true (decide (u.seq<0)) with l28|l28
        · have m28:=l28
          simp only[↓cqA,cqB]at m28
          refine qX 30 mixed E E E E (zU E (ql (.inl E) E) (zU E (ql (.inl E) E) (zU E (qp E qaf E E zO (qby hu)) (zU E (qJ E qaM E) (zU E (qD E qaZ E E) ?_)))))
          refine zU E (qai (avs:=[_]) true E qco E E (by have hh:=qiw u.f huf;rw [l20] at hh;exact hh) (fun _=>rfl) E) ?_;refine zU E (qaB E E) ?_;refine zU E (ql (.inl E) E) ?_;refine zQ E (ql (.inl E) E) ?_;refine zQ E (ql (.inl E) E) (zQ E (qp E qaf E E zO (qby hu)) (zQ E (qJ E qa4 E) (zQ E (qW E qQ E) (zQ E (qj (r:=.bool true) E E E (congrArg (fun b=>some (Value.bool b)) l28)) (zU E (qk E E E) (zU E (ql (.inl E) E) (qf E zD (.skip rfl E E zD zD) ?_)))))))
          refine qf E zD (.skip rfl E E zD zD) (qf E zD (.skip rfl E E zD zD) (qf E zD (.skipu E E E zD) (qf E zD (.skipu E E E zD) (qf E zD (.skipu E E E zD) (qf E zD (.skipu E E E zD) (qf E zD (.skipu E E E zD) (qf E zD (.skipu E E E zD) (qf E zD (.skipu E E E zD) (qf E zD (.skipu E E E zD) ?_)))))))))
          refine qf E zD (.skipu E E E zD) (qf E zD (.skipu E E E zD) (qf E zD (.skipu E E E zD) (qaq ⟨rfl,rfl,?_⟩)));refine qa8 E E E zD E zD (zY E ?_)
          refine zA E (qk E E E) (zK (qa2 E (qd (qb (zX E (qc ?_))))));refine qa (qn (qm (qP (qm (qm (qP (qm (zI hL (qg E qh) ?_ ?_))))))))
          · rfl
          refine ⟨q7 ?_,rfl⟩
          first
            | (symm;exact hbad k (by omega) (by
                rw [qbM hu,hy]
                first
                  | (rw [l20];rfl)
                  | (simp;omega)
                  | (have h5:((l.take k).any fun z=>qd6 z.f u.f)=true:=List.any_eq_true.2 ⟨v,List.mem_of_getElem? (i:=i) (by rw [List.getElem?_take,if_pos (by omega)];exact hv),by rw [qdK hvf l20];exact c3⟩
                     rw [h5];simp)))
            | (rw [qcA,List.all_eq_true.2 (fun j hj=>by
                 have hj:=List.mem_range.1 hj
                 exact hp.2.2 j zO)];simp;omega)
            | (rw [qcA,decide_eq_false (show ¬ l.length≤300 by omega)];simp;omega)
            | trace_state
        have m28:=l28
        simp only[↓cqA,cqB]at m28
        rcases Bool.eq_false_or_eq_true (decide ((k:Int)>0)) with l32|l32
        · have m32:=l32
          simp only[↓cqA,cqB]at m32
          rcases Bool.eq_false_or_eq_true (decide (y.seq≥u.seq)) with l45|l45
          · have m45:=l45
            simp only[↓cqA,cqB]at m45
            refine qX 30 mixed E E E E (zU E (ql (.inl E) E) (zU E (ql (.inl E) E) (zU E (qp E qaf E E zO (qby hu)) (zU E (qJ E qaM E) (zU E (qD E qaZ E E) ?_)))))
            refine zU E (qai (avs:=[_]) true E qco E E (by have hh:=qiw u.f huf;rw [l20] at hh;exact hh) (fun _=>rfl) E) ?_;refine zU E (qaB E E) ?_;refine zU E (ql (.inl E) E) ?_;refine zQ E (ql (.inl E) E) ?_;refine zQ E (ql (.inl E) E) (zQ E (qp E qaf E E zO (qby hu)) (zQ E (qJ E qa4 E) (zQ E (qW E qQ E) (zQ E (qj (r:=.bool false) E E E (congrArg (fun b=>some (Value.bool b)) l28)) (zU E (qk E E E) (zU E (ql (.inl E) E) ?_))))))
            refine zQ E (ql (.inl E) E) (zQ E (qj (r:=.bool true) E E E (congrArg (fun b=>some (Value.bool b)) l32)) (zQ E (ql (.inl E) E) (zQ E (ql (.inl E) E) (zQ E (ql (.inl E) E) (zQ E (qa3 E E E zO) (zQ E (qp E qaf E E zO (qby hy2)) (zQ E (qJ E qa4 E) ?_)))))))
            refine zQ E (qW E qQ E) (zQ E (ql (.inl E) E) (zQ E (ql (.inl E) E) (zQ E (qp E qaf E E zO (qby hu)) (zQ E (qJ E qa4 E) ?_))))
            refine zQ E (qW E qQ E) (qaq ⟨rfl,rfl,?_⟩);refine zZ E (qj (r:=.bool true) E E E (congrArg (fun b=>some (Value.bool b)) l45)) (zZ E (qk E E E) (zA E (qk E E E) (zK (qa2 E (qd (qb (zX E (zK (qn (qm (qP (qm (qm (qP (qm (zI hL (qg E qh) ?_ ?_))))))))))))))))
            · rfl
            refine ⟨q7 ?_,rfl⟩
            first
              | (symm;exact hbad k (by omega) (by
                  rw [qbM hu,hy]
                  first
                    | (rw [l20];rfl)
                    | (simp;omega)
                    | (have h5:((l.take k).any fun z=>qd6 z.f u.f)=true:=List.any_eq_true.2 ⟨v,List.mem_of_getElem? (i:=i) (by rw [List.getElem?_take,if_pos (by omega)];exact hv),by rw [qdK hvf l20];exact c3⟩
                       rw [h5];simp)))
              | (rw [qcA,List.all_eq_true.2 (fun j hj=>by
                   have hj:=List.mem_range.1 hj
                   exact hp.2.2 j zO)];simp;omega)
              | (rw [qcA,decide_eq_false (show ¬ l.length≤300 by omega)];simp;omega)
              | trace_state
          have m45:=l45
          simp only[↓cqA,cqB]at m45
          refine qX 30 mixed E E E E (zU E (ql (.inl E) E) (zU E (ql (.inl E) E) (zU E (qp E qaf E E zO (qby hu)) (zU E (qJ E qaM E) (zU E (qD E qaZ E E) ?_)))))
          refine zU E (qai (avs:=[_]) true E qco E E (by have hh:=qiw u.f huf;rw [l20] at hh;exact hh) (fun _=>rfl) E) ?_;refine zU E (qaB E E) ?_;refine zU E (ql (.inl E) E) ?_;refine zQ E (ql (.inl E) E) ?_;refine zQ E (ql (.inl E) E) (zQ E (qp E qaf E E zO (qby hu)) (zQ E (qJ E qa4 E) (zQ E (qW E qQ E) (zQ E (qj (r:=.bool false) E E E (congrArg (fun b=>some (Value.bool b)) l28)) (zU E (qk E E E) (zU E (ql (.inl E) E) ?_))))))
          refine zQ E (ql (.inl E) E) (zQ E (qj (r:=.bool true) E E E (congrArg (fun b=>some (Value.bool b)) l32)) (zQ E (ql (.inl E) E) (zQ E (ql (.inl E) E) (zQ E (ql (.inl E) E) (zQ E (qa3 E E E zO) (zQ E (qp E qaf E E zO (qby hy2)) (zQ E (qJ E qa4 E) ?_)))))))
          refine zQ E (qW E qQ E) (zQ E (ql (.inl E) E) (zQ E (ql (.inl E) E) (zQ E (qp E qaf E E zO (qby hu)) (zQ E (qJ E qa4 E) ?_))))
          refine zQ E (qW E qQ E) (qaq ⟨rfl,rfl,?_⟩);refine zZ E (qj (r:=.bool false) E E E (congrArg (fun b=>some (Value.bool b)) l45)) (zZ E (qk E E E) (zA E (qk E E E) (zK ?_)))
          refine qaA E (qr (qa (qd (qb (zX E (zK ?_))))));refine qv (qac (k) (fun i=>i≤k∧∀ (j:Nat) (x:Kp),j<i→l[j]?=some x→eqF x.f u.f=false) (fun i=>⟨[(0,.dat false 7 (kpDs l)),(3,iv (k:Int)),(4,iv (i:Int))],[]⟩) (⟨by omega,fun j x hj=>absurd hj zO⟩) ?_ (fun i hi hpi=>?_))
          · exact zR hL (zC E (zC E (zC E SubT.nil))) SubO.nil
          refine qd (qd (qb (zX E (zX E (zA E (qj E E E E) (zK ?_))))));refine qo E (fun c2=>?_) (fun c2=>?_)
          · simp only[↓cqA,cqB]at c2
            obtain ⟨v,hv⟩:=qM (l:=l) (k:=i) (by omega)
            have hvw:=(hw v (List.mem_of_getElem? hv)).2
            have hvf:=qir (hp.2.2 i (by omega)) hv
            have hvd:=(qd8 hvf).2.2
            refine qr (qa (qd (qv (qd (qX 10 mixed E E E E (zU E (ql (.inl E) E) (zU E (ql (.inl E) E) ?_)))))));refine zU E (qp E qaf E E zO (qby hv)) (zU E (qJ E qaM E) (zU E (qD E qaZ E E) (zU E (ql (.inl E) E) (zU E (ql (.inl E) E) (zU E (qp E qaf E E zO (qby hu)) (zU E (qJ E qaM E) (zU E (qD E qaZ E E) ?_)))))))
            refine qaq ⟨rfl,rfl,?_⟩;refine qH (avs:=[_,_]) true E E E zD qdq E E (qoz v.f u.f hvd hvw huf) E E (zK (qo E (fun c3=>?_) (fun c3=>?_)))
            · refine qd (qb (zX E (zK (qn (qP (qm (qm (qP (qP (qm (qm (qP (qm (zI hL (qg E qh) ?_ ?_))))))))))))))
              · rfl
              refine ⟨q7 ?_,rfl⟩
              first
                | (symm;exact hbad k (by omega) (by
                    rw [qbM hu,hy]
                    first
                      | (rw [l20];rfl)
                      | (simp;omega)
                      | (have h5:((l.take k).any fun z=>qd6 z.f u.f)=true:=List.any_eq_true.2 ⟨v,List.mem_of_getElem? (i:=i) (by rw [List.getElem?_take,if_pos (by omega)];exact hv),by rw [qdK hvf l20];exact c3⟩
                         rw [h5];simp)))
                | (rw [qcA,List.all_eq_true.2 (fun j hj=>by
                     have hj:=List.mem_range.1 hj
                     exact hp.2.2 j zO)];simp;omega)
                | (rw [qcA,decide_eq_false (show ¬ l.length≤300 by omega)];simp;omega)
                | trace_state
            refine qr (qR (qa (qb (zX E (zA E (qO E E E zO) (zX E (qc ?_)))))));refine qa ?_;refine ⟨?_,?_,?_⟩
            · omega
            · refine ⟨by omega,fun j x hj hx=>?_⟩
              by_cases hji:j<i
              · exact hpi.2 j x hji hx
              · rw [show j=i by omega,hv] at hx;cases hx;exact c3
            exact zR hL (zC E (zC E (zC E SubT.nil))) SubO.nil
          simp only[↓cqA,cqB]at c2
          refine qV (qq (qq (qad ?_)));refine qR (qa (qb (zX E (zA E (qO E E E zO) (zX E (zK ?_))))));refine ⟨?_,?_,?_⟩
          · omega
          · refine ⟨by omega,by omega,fun j hj=>?_⟩
            by_cases hjk:j<k
            · exact hp.2.2 j hjk
            · rw [show j=k by omega,qbM hu]
              have hany:((l.take k).any fun z=>qd6 z.f u.f)=false:=List.any_eq_false.2 fun z hz=>by
                obtain ⟨q,hq⟩:=List.getElem?_of_mem hz
                rw [List.getElem?_take] at hq
                split at hq
                · rename_i hqk
                  rw [qdK (qir (hp.2.2 q hqk) hq) l20]
                  simp [hpi.2 q z (by omega) hq]
                · cases hq
              rw [hany,l20,hy]
              simp;omega
          exact zR hL (zC E (zC E SubT.nil)) SubO.nil
        have m32:=l32
        simp only[↓cqA,cqB]at m32
        refine qX 30 mixed E E E E (zU E (ql (.inl E) E) (zU E (ql (.inl E) E) (zU E (qp E qaf E E zO (qby hu)) (zU E (qJ E qaM E) (zU E (qD E qaZ E E) ?_)))))
        refine zU E (qai (avs:=[_]) true E qco E E (by have hh:=qiw u.f huf;rw [l20] at hh;exact hh) (fun _=>rfl) E) ?_;refine zU E (qaB E E) ?_;refine zU E (ql (.inl E) E) ?_;refine zQ E (ql (.inl E) E) ?_;refine zQ E (ql (.inl E) E) (zQ E (qp E qaf E E zO (qby hu)) (zQ E (qJ E qa4 E) (zQ E (qW E qQ E) (zQ E (qj (r:=.bool false) E E E (congrArg (fun b=>some (Value.bool b)) l28)) (zU E (qk E E E) (zU E (ql (.inl E) E) (zQ E (ql (.inl E) E) ?_)))))))
        refine zQ E (qj (r:=.bool false) E E E (congrArg (fun b=>some (Value.bool b)) l32)) (zQ E (ql (.inl E) E) (qf E zD (.skip rfl E E zD zD) (qf E zD (.skip rfl E E zD zD) (qf E zD (.skip rfl E E zD zD) (qf E zD (.skip rfl E E zD zD) (qf E zD (.skip rfl E E zD zD) (qf E zD (.skip rfl E E zD zD) (qf E zD (.skip rfl E E zD zD) (qf E zD (.skip rfl E E zD zD) (qf E zD (.skip rfl E E zD zD) ?_))))))))))
        refine qf E zD (.skip rfl E E zD zD) (qf E zD (.skip rfl E E zD zD) (qaq ⟨rfl,rfl,?_⟩));refine zY E (zZ E (qk E E E) ?_)
        refine zA E (qk E E E) (zK (qaA E (qr (qa (qd (qb ?_))))));refine zX E (zK (qv (qac (k) (fun i=>i≤k∧∀ (j:Nat) (x:Kp),j<i→l[j]?=some x→eqF x.f u.f=false) (fun i=>⟨[(0,.dat false 7 (kpDs l)),(3,iv (k:Int)),(4,iv (i:Int))],[]⟩) (⟨by omega,fun j x hj=>absurd hj zO⟩) ?_ (fun i hi hpi=>?_))))
        · exact zR hL (zC E (zC E (zC E SubT.nil))) SubO.nil
        refine qd (qd (qb (zX E (zX E (zA E (qj E E E E) (zK ?_))))));refine qo E (fun c2=>?_) (fun c2=>?_)
        · simp only[↓cqA,cqB]at c2
          obtain ⟨v,hv⟩:=qM (l:=l) (k:=i) (by omega)
          have hvw:=(hw v (List.mem_of_getElem? hv)).2
          have hvf:=qir (hp.2.2 i (by omega)) hv
          have hvd:=(qd8 hvf).2.2
          refine qr (qa (qd (qv (qd (qX 10 mixed E E E E (zU E (ql (.inl E) E) (zU E (ql (.inl E) E) ?_)))))));refine zU E (qp E qaf E E zO (qby hv)) (zU E (qJ E qaM E) (zU E (qD E qaZ E E) (zU E (ql (.inl E) E) (zU E (ql (.inl E) E) (zU E (qp E qaf E E zO (qby hu)) (zU E (qJ E qaM E) (zU E (qD E qaZ E E) ?_)))))))
          refine qaq ⟨rfl,rfl,?_⟩;refine qH (avs:=[_,_]) true E E E zD qdq E E (qoz v.f u.f hvd hvw huf) E E (zK (qo E (fun c3=>?_) (fun c3=>?_)))
          · refine qd (qb (zX E (zK (qn (qP (qm (qm (qP (qP (qm (qm (qP (qm (zI hL (qg E qh) ?_ ?_))))))))))))))
            · rfl
            refine ⟨q7 ?_,rfl⟩
            first
              | (symm;exact hbad k (by omega) (by
                  rw [qbM hu,hy]
                  first
                    | (rw [l20];rfl)
                    | (simp;omega)
                    | (have h5:((l.take k).any fun z=>qd6 z.f u.f)=true:=List.any_eq_true.2 ⟨v,List.mem_of_getElem? (i:=i) (by rw [List.getElem?_take,if_pos (by omega)];exact hv),by rw [qdK hvf l20];exact c3⟩
                       rw [h5];simp)))
              | (rw [qcA,List.all_eq_true.2 (fun j hj=>by
                   have hj:=List.mem_range.1 hj
                   exact hp.2.2 j zO)];simp;omega)
              | (rw [qcA,decide_eq_false (show ¬ l.length≤300 by omega)];simp;omega)
              | trace_state
          refine qr (qR (qa (qb (zX E (zA E (qO E E E zO) (zX E (qc ?_)))))));refine qa ?_;refine ⟨?_,?_,?_⟩
          · omega
          · refine ⟨by omega,fun j x hj hx=>?_⟩
            by_cases hji:j<i
            · exact hpi.2 j x hji hx
            · rw [show j=i by omega,hv] at hx;cases hx;exact c3
          exact zR hL (zC E (zC E (zC E SubT.nil))) SubO.nil
        simp only[↓cqA,cqB]at c2
        refine qV (qq (qq (qad ?_)));refine qR (qa (qb (zX E (zA E (qO E E E zO) (zX E (zK ?_))))));refine ⟨?_,?_,?_⟩
        · omega
        · refine ⟨by omega,by omega,fun j hj=>?_⟩
          by_cases hjk:j<k
          · exact hp.2.2 j hjk
          · rw [show j=k by omega,qbM hu]
            have hany:((l.take k).any fun z=>qd6 z.f u.f)=false:=List.any_eq_false.2 fun z hz=>by
              obtain ⟨q,hq⟩:=List.getElem?_of_mem hz
              rw [List.getElem?_take] at hq
              split at hq
              · rename_i hqk
                rw [qdK (qir (hp.2.2 q hqk) hq) l20]
                simp [hpi.2 q z (by omega) hq]
              · cases hq
            rw [hany,l20,hy]
            simp;omega
        exact zR hL (zC E (zC E SubT.nil)) SubO.nil
      have m20:=l20
      refine qX 30 mixed E E E E (zU E (ql (.inl E) E) (zU E (ql (.inl E) E) (zU E (qp E qaf E E zO (qby hu)) (zU E (qJ E qaM E) (zU E (qD E qaZ E E) ?_)))))
      refine zU E (qai (avs:=[_]) true E qco E E (by have hh:=qiw u.f huf;rw [l20] at hh;exact hh) (fun _=>rfl) E) ?_;refine zU E (qaB E E) ?_;refine zU E (ql (.inl E) E) (qf E zD (.skip rfl E E zD zD) (qf E zD (.skip rfl E E zD zD) (qf E zD (.skip rfl E E zD zD) (qf E zD (.skip rfl E E zD zD) (qf E zD (.skip rfl E E zD zD) (qf E zD (.skip rfl E E zD zD) (zU E (qk E E E) (zU E (ql (.inl E) E) (qf E zD (.skip rfl E E zD zD) (qf E zD (.skip rfl E E zD zD) ?_))))))))))
      refine qf E zD (.skip rfl E E zD zD) (qf E zD (.skipu E E E zD) (qf E zD (.skipu E E E zD) (qf E zD (.skipu E E E zD) (qf E zD (.skipu E E E zD) (qf E zD (.skipu E E E zD) (qf E zD (.skipu E E E zD) (qf E zD (.skipu E E E zD) (qf E zD (.skipu E E E zD) (qf E zD (.skipu E E E zD) ?_)))))))))
      refine qf E zD (.skipu E E E zD) (qf E zD (.skipu E E E zD) (qaq ⟨rfl,rfl,?_⟩));refine qa8 E E E zD E zD (zY E (zA E (qk E E E) (qc ?_)))
      refine qa (qa2 E (qd (qb (zX E (zK (qn ?_))))));refine qm (qP (qm (qm (qP (qm (zI hL (qg E qh) ?_ ?_))))))
      · rfl
      refine ⟨q7 ?_,rfl⟩
      first
        | (symm;exact hbad k (by omega) (by
            rw [qbM hu,hy]
            first
              | (rw [l20];rfl)
              | (simp;omega)
              | (have h5:((l.take k).any fun z=>qd6 z.f u.f)=true:=List.any_eq_true.2 ⟨v,List.mem_of_getElem? (i:=i) (by rw [List.getElem?_take,if_pos (by omega)];exact hv),by rw [qdK hvf l20];exact c3⟩
                 rw [h5];simp)))
        | (rw [qcA,List.all_eq_true.2 (fun j hj=>by
             have hj:=List.mem_range.1 hj
             exact hp.2.2 j zO)];simp;omega)
        | (rw [qcA,decide_eq_false (show ¬ l.length≤300 by omega)];simp;omega)
        | trace_state
    simp only[↓cqA,cqB]at c0
    refine qV (qq (qq (qad ?_)));refine qa (qd (qb (zX E (zA E (qu E qaf E) (zA E (qj E E E E) (zX E (qc ?_)))))));refine qa (qn (zI hL (qg E qh) ?_ ?_))
    · rfl
    refine ⟨q7 ?_,rfl⟩
    first
      | (symm;exact hbad k (by omega) (by
          rw [qbM hu,hy]
          first
            | (rw [l20];rfl)
            | (simp;omega)
            | (have h5:((l.take k).any fun z=>qd6 z.f u.f)=true:=List.any_eq_true.2 ⟨v,List.mem_of_getElem? (i:=i) (by rw [List.getElem?_take,if_pos (by omega)];exact hv),by rw [qdK hvf l20];exact c3⟩
               rw [h5];simp)))
      | (rw [qcA,List.all_eq_true.2 (fun j hj=>by
           have hj:=List.mem_range.1 hj
           exact hp.2.2 j zO)];simp;omega)
      | (rw [qcA,decide_eq_false (show ¬ l.length≤300 by omega)];simp;omega)
      | trace_state
  simp only[↓cqA,cqB]at g9
  refine zY E (zY E (zA E (qk E E E) (zK (qaA E (qV (qq (qq (qad ?_))))))));refine qa (qd (qb (zX E (zA E (qu E qaf E) (zA E (qj E E E E) (zX E (zK (qn (zI hL (qg E qh) ?_ ?_)))))))))
  · rfl
  refine ⟨q7 ?_,rfl⟩
  first
    | (symm;exact hbad k (by omega) (by
        rw [qbM hu,hy]
        first
          | (rw [l20];rfl)
          | (simp;omega)
          | (have h5:((l.take k).any fun z=>qd6 z.f u.f)=true:=List.any_eq_true.2 ⟨v,List.mem_of_getElem? (i:=i) (by rw [List.getElem?_take,if_pos (by omega)];exact hv),by rw [qdK hvf l20];exact c3⟩
             rw [h5];simp)))
    | (rw [qcA,List.all_eq_true.2 (fun j hj=>by
         have hj:=List.mem_range.1 hj
         exact hp.2.2 j zO)];simp;omega)
    | (rw [qcA,decide_eq_false (show ¬ l.length≤300 by omega)];simp;omega)
    | trace_state
theorem nL {c:Ctx}{Oin:List (Nat×Ob)}(hL:∀ l,c.L l↔inD Oin l=true){l:Nat}(h:inD Oin l=false):¬ c.L l:=fun hl=>by
 rw [(hL l).1 hl] at h;cases h
theorem qni (d:Nat)(l:List Kp)(hl:l.length≤1000000000)(hd:∀ b∈l,dle d b.f.t)(hw:∀ b∈l,b.wf):AC Tryz.prog 126 [.dat false 7 (kpDs l)] [] (fun r O=>r=.row 3∧O=[(3,.rowd 71 7 false (kpDs l))]):=by
 have hlen:=qc3 l
 refine qI Tryz.func126 E Tryz.ntmps126 zL fun c hL hQ hDD=>(qd (qb (zX E (zK (qd (qb ?_))))));refine zX E (zK (qd (qd (qb (zX E (zK (qv (qac (l.length) (fun k=>k≤l.length) (fun k=>⟨[(0,.dat false 7 (kpDs l)),(3,.row 3),(4,iv (k:Int))],[(3,.rowd 71 7 true (kpDs (l.take k)))]⟩) zO ?_ (fun k hk hp=>?_)))))))))
 ·exact Sub.trans (qam (t:=3) (l:=3) 71 7 true E E) (qC (zC E (zC E (zC E SubT.nil))) (SubO.cons (qU E (by rfl)) SubO.nil) E E (noL' (noL hL) _))
 have hl2:(kpDs (l.take k)).length≤l.length:=by rw [qc3,List.length_take];omega
 refine qd (qd (qb (zX E (zX E (zA E (qu E qaf E) (zA E (qj E E E E) (qc ?_)))))));refine qa (qo E (fun c0=>?_) (fun c0=>?_))
 ·simp only[↓cqA,cqB]at c0
  obtain ⟨u,hu⟩:=qM (l:=l) (k:=k) (by omega)
  have hum:=List.mem_of_getElem? hu
  refine qr (qa (qd (qv (qb (zX E (zX E (zX E ?_)))))));refine zA E (qp E qaf E E zO (qby hu)) (zA E (qD E qb5 E E) (qH (avs:=[_]) true E E E zD qga E E (qpv d u (hd u hum) (hw u hum)) E E (qt E E zD (qaj 17 E qaf qdw E E zD zD zD E E E) E (qbW E E zD (qaU 18 qmp E E E E E E E E (noL hL _) zO E) E ?_))))
  refine zX E (qc (qR (qa (qb (zX E (zA E (qO E E E zO) (zX E ?_)))))));refine zK ?_;refine ⟨?_,?_,?_⟩
  ·omega
  ·omega
  exact Sub.trans (qZ 18 3 (noL hL _) (noL hL _)) (qC (zC E (zC E (zC E SubT.nil))) (SubO.cons (qU E (by rw [qas hu,kpDs,kpDs,List.map_append];rfl)) SubO.nil) E E (noL' (noL hL) _))
 simp only[↓cqA,cqB]at c0
 refine qV (qq (qq (qad ?_)));refine qa (qd (qbI (qdi hQ) (qb (zX E (zX E (zK ?_))))));refine qn ?_
 change retQ _ _ _ _ _ _ _
 refine retO (O':=[(3,_)]) (.inl E) (qg E qh) (SubO.cons E SubO.nil) ?_ ?_ (noL' (noL hL) _) ?_
 ·rfl
 ·rfl
 exact ⟨rfl,by rw [List.take_of_length_le zO];rfl⟩
theorem wKs_dle (hw:∀ b∈l,b.wf)(h:wKs l≤1048575):∀ b∈l,dle 30 b.f.t:=fun b hb=>by
 have h1:=(qeD wK 1048575 (by omega) _ l (fun u hu=>(qdI u.f.t (hw u hu).2.1).1) (by omega) h).2 b hb
 have h2:wgt 30 b.f.t≤1048575:=by
  simp only [wK,wT] at h1;omega
 exact qmj 30 b.f.t h2
def wgtP:Nat→Pt→Int
 | 0,_=>1048576
 | d+1,p=>wgtL (wgtP d) (wgtL (wgtP d) (wgtL (wgtP d) (1+wT p.t) p.l) p.r) p.c
def dlP:Nat→Pt→Prop
 | 0,_=>False
 | d+1,p=>dle 30 p.t∧(∀ x∈p.l,dlP d x)∧(∀ x∈p.r,dlP d x)∧∀ x∈p.c,dlP d x
theorem qe5 {α:Type}(f:α→Int)(B:Int)(hB:1048576≤B):∀ (n:Int) (l:List α),(∀ t∈l,f t≤B)→n≤1048576+B→wgtL f n l≤1048576+B
 | n,[],_,h0=>h0
 | n,a::l,h,h0=>by
   simp only [wgtL]
   split
   ·exact qe5 f B hB _ l (fun t ht=>h t (by simp [ht])) (by have:=h a (by simp);omega)
   ·exact h0
theorem qdo:∀ (d:Nat) (p:Pt),p.wf→0≤wgtP d p
 | 0,_,_=>by simp [wgtP]
 | d+1,p,h=>by
   have h0:=qdI p.t h.2.1
   simp only [wgtP]
   have hl:=qbJ (wgtP d) (1+wT p.t) p.l (fun t ht=>qdo d t (Pt.wfs_iff.1 h.2.2.2.1.2 t ht))
   have hr:=qbJ (wgtP d) (wgtL (wgtP d) (1+wT p.t) p.l) p.r (fun t ht=>qdo d t (Pt.wfs_iff.1 h.2.2.2.2.1.2 t ht))
   have hc:=qbJ (wgtP d) (wgtL (wgtP d) (wgtL (wgtP d) (1+wT p.t) p.l) p.r) p.c (fun t ht=>qdo d t (Pt.wfs_iff.1 h.2.2.2.2.2.2 t ht))
   omega
theorem qeV:∀ (d:Nat) (p:Pt),p.wf→wgtP d p≤4362862138900001+1048576*d
 | 0,_,_=>by simp [wgtP]
 | d+1,p,h=>by
   have h0:=qdI p.t h.2.1
   simp only [wgtP]
   have hB:(1048576:Int)≤4362862138900001+1048576*d:=by omega
   have hl:=qe5 (wgtP d) (4362862138900001+1048576*d) hB (1+wT p.t) p.l (fun t ht=>qeV d t (Pt.wfs_iff.1 h.2.2.2.1.2 t ht)) (by omega)
   have hr:=qe5 (wgtP d) (4362862138900001+1048576*d) hB (wgtL (wgtP d) (1+wT p.t) p.l) p.r (fun t ht=>qeV d t (Pt.wfs_iff.1 h.2.2.2.2.1.2 t ht)) hl
   have hc:=qe5 (wgtP d) (4362862138900001+1048576*d) hB (wgtL (wgtP d) (wgtL (wgtP d) (1+wT p.t) p.l) p.r) p.c (fun t ht=>qeV d t (Pt.wfs_iff.1 h.2.2.2.2.2.2 t ht)) hr
   push_cast
   omega
theorem qjX:∀ (d:Nat) (p:Pt),p.wf→wgtP d p≤1048575→dlP d p
 | 0,p,_,h=>by simp [wgtP] at h
 | d+1,p,h,hw=>by
   have h0:=qdI p.t h.2.1
   simp only [wgtP] at hw
   have hL:∀ t∈p.l,0≤wgtP d t:=fun t ht=>qdo d t (Pt.wfs_iff.1 h.2.2.2.1.2 t ht)
   have hR:∀ t∈p.r,0≤wgtP d t:=fun t ht=>qdo d t (Pt.wfs_iff.1 h.2.2.2.2.1.2 t ht)
   have hC:∀ t∈p.c,0≤wgtP d t:=fun t ht=>qdo d t (Pt.wfs_iff.1 h.2.2.2.2.2.2 t ht)
   have g1:=qbJ (wgtP d) (1+wT p.t) p.l hL
   have g2:=qbJ (wgtP d) (wgtL (wgtP d) (1+wT p.t) p.l) p.r hR
   obtain ⟨a1,a2⟩:=qeD (wgtP d) 1048575 (by omega) _ p.c hC (by omega) hw
   obtain ⟨b1,b2⟩:=qeD (wgtP d) 1048575 (by omega) _ p.r hR (by omega) a1
   obtain ⟨c1,c2⟩:=qeD (wgtP d) 1048575 (by omega) _ p.l hL (by omega) b1
   exact ⟨qmj 30 p.t (show wT p.t≤1048575 by omega),fun x hx=>qjX d x (Pt.wfs_iff.1 h.2.2.2.1.2 x hx) (c2 x hx),fun x hx=>qjX d x (Pt.wfs_iff.1 h.2.2.2.2.1.2 x hx) (b2 x hx),fun x hx=>qjX d x (Pt.wfs_iff.1 h.2.2.2.2.2.2 x hx) (a2 x hx)⟩
def wP (p:Pt):Int:=wgtP 30 p
theorem qpC (p:Pt)(h:p.wf):0≤wP p∧wP p≤4362870000000000:=by
 have h1:=qdo 30 p h
 have h2:=qeV 30 p h
 simp only [wP];omega
def wM (m:Mt):Int:=m.u.length+wBs m.b
theorem qpD (m:Mt)(h:m.wf):0≤wM m∧wM m≤5000000000000000:=by
 have h1:=qnp m.b h.1.1 h.1.2
 have h2:=h.2.2.1
 simp only [qbt] at h2
 simp only [wM];omega
def wMs (l:List Mt):Int:=wgtL wM l.length l
theorem qnn (l:List Mt)(hl:qbt l)(hw:∀ g∈l,g.wf):0≤wMs l∧wMs l≤5200000000000000:=by
 have hF:∀ u,u∈l→0≤wM u∧wM u≤5000000000000000:=fun u hu=>qpD u (hw u hu)
 have h1:=qfF wM 5000000000000000 (by omega) l.length l (fun u hu=>(hF u hu).2) (by simp only [qbt] at hl;omega)
 have h2:=qbJ wM l.length l (fun u hu=>(hF u hu).1)
 simp only [wMs];omega
def n13 (p:qhQ):Int:=wgtL wP (wKs p.L+wMs p.M+p.X.length) p.X
def qjj (p:qhQ):Bool:=decide (1200<n13 p)
end Go.Proofs.YtpgceiijoedppaaGreat