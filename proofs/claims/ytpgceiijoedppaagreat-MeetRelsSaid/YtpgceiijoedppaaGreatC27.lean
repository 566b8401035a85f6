/- Part 27 of the proof: Gt, Gu, Gv, Gw, Gx, Gy, Gz. -/
import Derived.Test.YtpgceiijoedppaaGreatC26
import Derived.Laws.StructEq
set_option linter.unusedVariables false
set_option linter.unusedSimpArgs false
set_option maxRecDepth 8000
namespace Go.Proofs.YtpgceiijoedppaaGreat
open Go Go.Maps
variable {f:Ft}{l:List Kp}
def qd6 (a b:Ft):Bool:=decide (keyS a=keyS b)&&decide (a.fr=b.fr)&&decide (a.to=b.to)
def qfv (l:List Kp)(i:Nat):Bool:=match l[i]? with
 | some x=>qer x.f&&decide (0≤x.seq)&&(decide (i=0) || match l[i-1]? with|some y=>decide (y.seq<x.seq)|none=>false)&&!((l.take i).any fun y=>qd6 y.f x.f)
 | none=>true
def qcA (l:List Kp):Bool:=decide (l.length≤300)&&(List.range l.length).all (qfv l)
def qo5 (l:List Kp):List Lit:=(l.map fun k=>qn1 k.f).reverse
theorem qsg (hm:mayT f.t=true):(keyS f).size≤1000:=by
 have h:=qka 5 f.t (qdd hm)
 have h2:=((qfA f.t).1 hm).2.2
 have e:(keyS f).size=(keyL 5 f.t).length:=by simp [keyS,ByteArray.size]
 omega
theorem qf6 (hf:f.wf)(hm:mayT f.t=true):keyOf Tryz.prog 269 (idV f)=some (qn1 f):=keyOf_ID f (by have:=qsg hm;simp only [maxLen];omega) hf.2.1 hf.2.2
theorem qn0 {a b:Ft}(ha:a.wf)(hb:b.wf)(ma:mayT a.t=true)(mb:mayT b.t=true):qn1 a=qn1 b↔qd6 a b=true:=by
 constructor
 ·intro h
  have h1:=qf6 ha ma
  rw [h] at h1
  have:=qkT.inj h1 (qf6 hb mb)
  simp only [Value.agg.injEq,Array.mk.injEq,List.cons.injEq,Value.string.injEq,Value.int.injEq,true_and,and_true] at this
  simp [qd6,this.1,this.2.1,this.2.2]
 ·intro h
  simp only [qd6,Bool.and_eq_true,decide_eq_true_eq] at h
  rw [qn1,qn1,h.1.1,h.1.2,h.2]
theorem qnX (hw:∀ k∈l,k.wf)(hm:∀ k∈l,mayT k.f.t=true)(hf:f.wf)(mf:mayT f.t=true):qn1 f∈qo5 l↔(l.any fun y=>qd6 y.f f)=true:=by
 rw [qo5,List.mem_reverse,List.mem_map,List.any_eq_true]
 constructor
 ·rintro ⟨k,hk,e⟩;exact ⟨k,hk,(qn0 (hw k hk).2 hf (hm k hk) mf).1 e⟩
 ·rintro ⟨k,hk,e⟩;exact ⟨k,hk,(qn0 (hw k hk).2 hf (hm k hk) mf).2 e⟩
theorem qbM {k:Nat}{x:Kp}(h:l[k]?=some x):qfv l k=(qer x.f&&decide (0≤x.seq)&&(decide (k=0) || match l[k-1]? with|some y=>decide (y.seq<x.seq)|none=>false)&&!((l.take k).any fun y=>qd6 y.f x.f)):=by
 rw [qfv,h]
theorem List_ok (l:List Kp)(hw:∀ k∈l,k.wf):PF 195 [.dat false 7 (kpDs l)] (bv (qcA l)):=by
 have hlen:=qc3 l
 refine qI Tryz.func195 E Tryz.ntmps195 zL fun c hL hQ hDD=>(qd (qb (zX E (zK (qd (qd ?_))))));refine qb (zX E (zA E (qu E qaf E) (zA E (qj E E E E) (zK (qo E (fun c0=>?_) (fun c0=>?_))))))
 ·simp only[↓cqA,cqB]at c0
  refine qd (qb (zX E (zK (qn (qm (zI hL (qg E qh) ?_ ?_))))))
  ·rfl
  refine ⟨q7 ?_,rfl⟩
  symm
  rw [qcA]
  first
   | (rw [decide_eq_false (show ¬ l.length≤300 by omega)];rfl)
   | (have hst:qfv l k=false:=by
       rw [qbM hu,hy]
       first|(rw [l19];rfl)|(rw [c2];simp;done)|(simp;omega)
      have:(List.range l.length).all (qfv l)=false:=List.all_eq_false.2 ⟨k,by simp;omega,by simp [hst]⟩
      rw [this];simp)
   | (rw [decide_eq_true (show l.length≤300 by omega),List.all_eq_true.2 (fun j hj=>hp.2 j (by have:=List.mem_range.1 hj;omega))];rfl)
 simp only[↓cqA,cqB]at c0
 refine qr (qa (qd (qb (qt E E zD (qko 9 E qkT) E (zX E (zK ?_))))));refine qd (qd (qb (zX E (zA E (qu E qaf E) (zX E (zK (qv (qac (l.length) (fun k=>k≤l.length∧∀ j,j<k→qfv l j=true) (fun k=>⟨[(0,.dat false 7 (kpDs l)),(3,.map 9),(10,.dat false 7 (kpDs l)),(11,iv (kpDs l).length),(12,iv (k:Int))],[(9,.mp Tryz.prog 269 (qo5 (l.take k)))]⟩) (⟨by omega,fun j hj=>absurd hj zO⟩) ?_ (fun k hk hp=>?_)))))))))
 ·exact zR hL (zC E (zC E (zC E (zC E (zC E SubT.nil))))) (SubO.cons (qU E (by rfl)) SubO.nil)
 have hmm:∀ x∈l.take k,mayT x.f.t=true:=fun x hx=>by
  obtain ⟨j,hj⟩:=List.getElem?_of_mem hx
  rw [List.getElem?_take] at hj
  split at hj
  ·rename_i hjk
   have:=hp.2 j hjk
   rw [qbM hj] at this
   simp only [Bool.and_eq_true] at this
   exact qcV this.1.1.1
  ·cases hj
 have hww:∀ x∈l.take k,x.wf:=fun x hx=>hw x (List.mem_of_mem_take hx)
 have hkl:(qo5 (l.take k)).length≤l.length:=by simp [qo5];omega
 refine qd (qb (zA E (qj E E E E) (zK (qd (qo E (fun c1=>?_) (fun c1=>?_))))))
 ·simp only[↓cqA,cqB]at c1
  obtain ⟨u,hu⟩:=qM (l:=l) (k:=k) (by omega)
  have huw:=hw u (List.mem_of_getElem? hu)
  have huf:=huw.2
  obtain ⟨y,hy⟩:=qM (l:=l) (k:=k-1) (by omega)
  have hy2:l[((k:Int)-1).toNat]?=some y:=by rw [show ((k:Int)-1).toNat=k-1 by omega];exact hy
  refine qr (qa (qd (qv (qd (qb (zX E (zA E (qp E qaf E E zO (qby hu)) ?_)))))));refine zA E (qD E qb5 E E) (qt E E zD (qat 5 E qdw E) E (zX E (qT E E E qb5 E E E E E E E E E (zK (qd (qd ?_))))))
  rcases Bool.eq_false_or_eq_true (qer u.f) with l19|l19
  ·have m19:=l19
   rcases Bool.eq_false_or_eq_true (decide (u.seq<0)) with l24|l24
   ·have m24:=l24
    simp only[↓cqA,cqB]at m24
    refine qX 29 mixed E E E E ?_;refine zU E (qe E qaM E) ?_;refine zU E (qi E qaZ E E E E E) ?_;refine zU E (qai (avs:=[_]) true E qfo E E (by have hh:=qf8 u.f huf;rw [l19] at hh;exact hh) (fun _=>rfl) E) ?_;refine zU E (qaB E E) ?_;refine zU E (ql (.inl E) E) (zQ E (qe E qa4 E) (zQ E (qi E qQ E E E E E) (zQ E (qj (r:=.bool true) E E E (congrArg (fun b=>some (Value.bool b)) l24)) (zU E (qk E E E) (zU E (ql (.inl E) E) (qf E zD (.skip rfl E E zD zD) (qf E zD (.skip rfl E E zD zD) (qf E zD (.skip rfl E E zD zD) (qf E zD (.skipu E E E zD) (qf E zD (.skipu E E E zD) (qf E zD (.skipu E E E zD) ?_)))))))))))
    refine qf E zD (.skipu E E E zD) (qf E zD (.skipu E E E zD) (qf E zD (.skipu E E E zD) (qf E zD (.skipu E E E zD) (qf E zD (.skipu E E E zD) (qf E zD (.skipu E E E zD) (qf E zD (.skip rfl E E zD zD) (zU E (qk E E E) (zU E (ql (.inl E) E) (qf E zD (.skip rfl E E zD zD) ?_)))))))))
    refine qf E zD (.skip rfl E E zD zD) (qf E zD (.skip rfl E E zD zD) (qf E zD (.skip rfl E E zD zD) (qaq ⟨rfl,rfl,?_⟩)));refine zY E ?_
    refine zA E (qk E E E) (zK (qa2 E (qd (qb (zX E (qc ?_))))));refine qa (qn (qm (qP (qm (qm (qP (qm (zI hL (qg E qh) ?_ ?_))))))))
    ·rfl
    refine ⟨q7 ?_,rfl⟩
    symm
    rw [qcA]
    first
     | (rw [decide_eq_false (show ¬ l.length≤300 by omega)];rfl)
     | (have hst:qfv l k=false:=by
         rw [qbM hu,hy]
         first|(rw [l19];rfl)|(rw [c2];simp;done)|(simp;omega)
        have:(List.range l.length).all (qfv l)=false:=List.all_eq_false.2 ⟨k,by simp;omega,by simp [hst]⟩
        rw [this];simp)
     | (rw [decide_eq_true (show l.length≤300 by omega),List.all_eq_true.2 (fun j hj=>hp.2 j (by have:=List.mem_range.1 hj;omega))];rfl)
   have m24:=l24
   simp only[↓cqA,cqB]at m24
   rcases Bool.eq_false_or_eq_true (decide ((k:Int)>0)) with l28|l28
   ·have m28:=l28
    simp only[↓cqA,cqB]at m28
    rcases Bool.eq_false_or_eq_true (decide (u.seq≤y.seq)) with l38|l38
    ·have m38:=l38
     simp only[↓cqA,cqB]at m38
     refine qX 29 mixed E E E E ?_;refine zU E (qe E qaM E) ?_;refine zU E (qi E qaZ E E E E E) ?_;refine zU E (qai (avs:=[_]) true E qfo E E (by have hh:=qf8 u.f huf;rw [l19] at hh;exact hh) (fun _=>rfl) E) ?_;refine zU E (qaB E E) ?_;refine zU E (ql (.inl E) E) (zQ E (qe E qa4 E) (zQ E (qi E qQ E E E E E) (zQ E (qj (r:=.bool false) E E E (congrArg (fun b=>some (Value.bool b)) l24)) (zU E (qk E E E) (zU E (ql (.inl E) E) (zQ E (ql (.inl E) E) (zQ E (qj (r:=.bool true) E E E (congrArg (fun b=>some (Value.bool b)) l28)) (zQ E (ql (.inl E) E) (zQ E (qe E qa4 E) (zQ E (qi E qQ E E E E E) ?_))))))))))
     refine zQ E (ql (.inl E) E) (zQ E (ql (.inl E) E) (zQ E (qa3 E E E zO) (zQ E (qp E qaf E E zO (qby hy2)) (zQ E (qJ E qa4 E) (zQ E (qW E qQ E) (zQ E (qj (r:=.bool true) E E E (congrArg (fun b=>some (Value.bool b)) l38)) (zQ E (qk E E E) (zU E (qk E E E) (zU E (ql (.inl E) E) ?_)))))))))
     refine qf E zD (.skip rfl E E zD zD) (qf E zD (.skip rfl E E zD zD) (qf E zD (.skip rfl E E zD zD) (qf E zD (.skip rfl E E zD zD) (qaq ⟨rfl,rfl,?_⟩))))
     refine zY E (zA E (qk E E E) (zK (qa2 E (qd (qb (zX E ?_))))));refine zK (qn (qm (qP (qm (qm (qP (qm (zI hL (qg E qh) ?_ ?_))))))))
     ·rfl
     refine ⟨q7 ?_,rfl⟩
     symm
     rw [qcA]
     first
      | (rw [decide_eq_false (show ¬ l.length≤300 by omega)];rfl)
      | (have hst:qfv l k=false:=by
          rw [qbM hu,hy]
          first|(rw [l19];rfl)|(rw [c2];simp;done)|(simp;omega)
         have:(List.range l.length).all (qfv l)=false:=List.all_eq_false.2 ⟨k,by simp;omega,by simp [hst]⟩
         rw [this];simp)
      | (rw [decide_eq_true (show l.length≤300 by omega),List.all_eq_true.2 (fun j hj=>hp.2 j (by have:=List.mem_range.1 hj;omega))];rfl)
    have m38:=l38
    simp only[↓cqA,cqB]at m38
    refine qX 29 mixed E E E E ?_;refine zU E (qe E qaM E) ?_;refine zU E (qi E qaZ E E E E E) ?_;refine zU E (qai (avs:=[_]) true E qfo E E (by have hh:=qf8 u.f huf;rw [l19] at hh;exact hh) (fun _=>rfl) E) ?_;refine zU E (qaB E E) ?_;refine zU E (ql (.inl E) E) (zQ E (qe E qa4 E) (zQ E (qi E qQ E E E E E) (zQ E (qj (r:=.bool false) E E E (congrArg (fun b=>some (Value.bool b)) l24)) (zU E (qk E E E) (zU E (ql (.inl E) E) (zQ E (ql (.inl E) E) ?_))))))
    refine zQ E (qj (r:=.bool true) E E E (congrArg (fun b=>some (Value.bool b)) l28)) (zQ E (ql (.inl E) E) (zQ E (qe E qa4 E) (zQ E (qi E qQ E E E E E) (zQ E (ql (.inl E) E) (zQ E (ql (.inl E) E) (zQ E (qa3 E E E zO) (zQ E (qp E qaf E E zO (qby hy2)) (zQ E (qJ E qa4 E) ?_))))))))
    refine zQ E (qW E qQ E) (zQ E (qj (r:=.bool false) E E E (congrArg (fun b=>some (Value.bool b)) l38)) (zQ E (qk E E E) (zU E (qk E E E) (zU E (ql (.inl E) E) (zQ E (ql (.inl E) E) (zQ E (qe E qaM E) (zQ E (qi E qaZ E E E E E) (zQ E (qai (avs:=[_]) true E qgH E E (Of_ok u.f huf (qcV (by assumption))) (fun _=>rfl) E) (qaq ⟨rfl,rfl,?_⟩)))))))))
    refine zZ E (qlJ E qc6 Tryz.zeroValue4 E E E E (qf6 huf (qcV (by assumption))) ((qnX hww hmm huf (qcV (by assumption))).symm)) (zA E (qk E E E) (zK (qo E (fun c2=>?_) (fun c2=>?_))))
    ·refine qd (qb (zX E (zK (qn (qm (qP (qm (qm (qP (qm (zI hL (qg E qh) ?_ ?_)))))))))))
     ·rfl
     refine ⟨q7 ?_,rfl⟩
     symm
     rw [qcA]
     first
      | (rw [decide_eq_false (show ¬ l.length≤300 by omega)];rfl)
      | (have hst:qfv l k=false:=by
          rw [qbM hu,hy]
          first|(rw [l19];rfl)|(rw [c2];simp;done)|(simp;omega)
         have:(List.range l.length).all (qfv l)=false:=List.all_eq_false.2 ⟨k,by simp;omega,by simp [hst]⟩
         rw [this];simp)
      | (rw [decide_eq_true (show l.length≤300 by omega),List.all_eq_true.2 (fun j hj=>hp.2 j (by have:=List.mem_range.1 hj;omega))];rfl)
    refine qr (qa (qb (zX E (zA E (qe E qaM E) (zA E (qi E qaZ E E E E E) ?_)))))
    refine qH (avs:=[_]) true E E E zD qgH E E (Of_ok u.f huf (qcV (by assumption))) E E ?_;refine qif E E E qc6 E E E E E (qf6 huf (qcV (by assumption))) (by simp only [maxLen];omega) ?_;refine qc ?_;refine qR ?_;refine qa ?_;refine qb ?_;refine zA E (qO E E E zO) ?_;refine zX E ?_;refine qc ?_;refine qa ?_;refine ⟨?_,?_,?_⟩
    ·omega
    ·refine ⟨by omega,fun j hj=>?_⟩
     by_cases hjk:j<k
     ·exact hp.2 j hjk
     ·rw [show j=k by omega,qbM hu,l19,hy,c2]
      simp;omega
    exact qC (zC E (zC E (zC E (zC E (zC E SubT.nil))))) (SubO.cons (qU E (by rw [qas hu];simp [qo5,Ob.rn])) SubO.nil) rfl rfl (noL' (noL hL) _)
   have m28:=l28
   simp only[↓cqA,cqB]at m28
   refine qX 29 mixed E E E E ?_;refine zU E (qe E qaM E) ?_;refine zU E (qi E qaZ E E E E E) ?_;refine zU E (qai (avs:=[_]) true E qfo E E (by have hh:=qf8 u.f huf;rw [l19] at hh;exact hh) (fun _=>rfl) E) ?_;refine zU E (qaB E E) ?_;refine zU E (ql (.inl E) E) (zQ E (qe E qa4 E) (zQ E (qi E qQ E E E E E) (zQ E (qj (r:=.bool false) E E E (congrArg (fun b=>some (Value.bool b)) l24)) (zU E (qk E E E) (zU E (ql (.inl E) E) (zQ E (ql (.inl E) E) ?_))))))
   refine zQ E (qj (r:=.bool false) E E E (congrArg (fun b=>some (Value.bool b)) l28)) (zQ E (ql (.inl E) E) (qf E zD (.skip rfl E E zD zD) (qf E zD (.skip rfl E E zD zD) (qf E zD (.skip rfl E E zD zD) (qf E zD (.skip rfl E E zD zD) (qf E zD (.skip rfl E E zD zD) (qf E zD (.skip rfl E E zD zD) (qf E zD (.skip rfl E E zD zD) (qf E zD (.skip rfl E E zD zD) (qf E zD (.skip rfl E E zD zD) (zQ E (qk E E E) (zU E (qk E E E) (zU E (ql (.inl E) E) (zQ E (ql (.inl E) E) ?_))))))))))))))
   refine zQ E (qe E qaM E) (zQ E (qi E qaZ E E E E E) (zQ E (qai (avs:=[_]) true E qgH E E (Of_ok u.f huf (qcV (by assumption))) (fun _=>rfl) E) (qaq ⟨rfl,rfl,?_⟩)))
   refine zZ E (qlJ E qc6 Tryz.zeroValue4 E E E E (qf6 huf (qcV (by assumption))) ((qnX hww hmm huf (qcV (by assumption))).symm)) (zA E (qk E E E) (zK (qo E (fun c2=>?_) (fun c2=>?_))))
   ·refine qd (qb (zX E (zK (qn (qm (qP (qm (qm (qP (qm (zI hL (qg E qh) ?_ ?_)))))))))))
    ·rfl
    refine ⟨q7 ?_,rfl⟩
    symm
    rw [qcA]
    first
     | (rw [decide_eq_false (show ¬ l.length≤300 by omega)];rfl)
     | (have hst:qfv l k=false:=by
         rw [qbM hu,hy]
         first|(rw [l19];rfl)|(rw [c2];simp;done)|(simp;omega)
        have:(List.range l.length).all (qfv l)=false:=List.all_eq_false.2 ⟨k,by simp;omega,by simp [hst]⟩
        rw [this];simp)
     | (rw [decide_eq_true (show l.length≤300 by omega),List.all_eq_true.2 (fun j hj=>hp.2 j (by have:=List.mem_range.1 hj;omega))];rfl)
   refine qr (qa (qb (zX E (zA E (qe E qaM E) (zA E (qi E qaZ E E E E E) ?_)))))
   refine qH (avs:=[_]) true E E E zD qgH E E (Of_ok u.f huf (qcV (by assumption))) E E ?_;refine qif E E E qc6 E E E E E (qf6 huf (qcV (by assumption))) (by simp only [maxLen];omega) ?_;refine qc ?_;refine qR ?_;refine qa ?_;refine qb ?_;refine zA E (qO E E E zO) ?_;refine zX E ?_;refine qc ?_;refine qa ?_;refine ⟨?_,?_,?_⟩
   ·omega
   ·refine ⟨by omega,fun j hj=>?_⟩
    by_cases hjk:j<k
    ·exact hp.2 j hjk
    ·rw [show j=k by omega,qbM hu,l19,hy,c2]
     simp;omega
   exact qC (zC E (zC E (zC E (zC E (zC E SubT.nil))))) (SubO.cons (qU E (by rw [qas hu];simp [qo5,Ob.rn])) SubO.nil) rfl rfl (noL' (noL hL) _)
  have m19:=l19
  refine qX 29 mixed E E E E (zU E (qe E qaM E) (zU E (qi E qaZ E E E E E) ?_))
  refine zU E (qai (avs:=[_]) true E qfo E E (by have hh:=qf8 u.f huf;rw [l19] at hh;exact hh) (fun _=>rfl) E) ?_;refine zU E (qaB E E) ?_;refine zU E (ql (.inl E) E) ?_;refine qf E zD (.skip rfl E E zD zD) (qf E zD (.skip rfl E E zD zD) (qf E zD (.skip rfl E E zD zD) (zU E (qk E E E) (zU E (ql (.inl E) E) (qf E zD (.skip rfl E E zD zD) (qf E zD (.skip rfl E E zD zD) (qf E zD (.skip rfl E E zD zD) (qf E zD (.skipu E E E zD) (qf E zD (.skipu E E E zD) (qf E zD (.skipu E E E zD) (qf E zD (.skipu E E E zD) (qf E zD (.skipu E E E zD) (qf E zD (.skipu E E E zD) (qf E zD (.skipu E E E zD) (qf E zD (.skipu E E E zD) ?_)))))))))))))))
  refine qf E zD (.skipu E E E zD) (qf E zD (.skip rfl E E zD zD) (zU E (qk E E E) (zU E (ql (.inl E) E) (qf E zD (.skip rfl E E zD zD) ?_))))
  refine qf E zD (.skip rfl E E zD zD) (qf E zD (.skip rfl E E zD zD) (qf E zD (.skip rfl E E zD zD) (qaq ⟨rfl,rfl,?_⟩)));refine zY E (zA E (qk E E E) ?_)
  refine zK (qa2 E (qd (qb (zX E (zK ?_)))));refine qn (qm (qP (qm (qm (qP (qm (zI hL (qg E qh) ?_ ?_)))))))
  ·rfl
  refine ⟨q7 ?_,rfl⟩
  symm
  rw [qcA]
  first
   | (rw [decide_eq_false (show ¬ l.length≤300 by omega)];rfl)
   | (have hst:qfv l k=false:=by
       rw [qbM hu,hy]
       first|(rw [l19];rfl)|(rw [c2];simp;done)|(simp;omega)
      have:(List.range l.length).all (qfv l)=false:=List.all_eq_false.2 ⟨k,by simp;omega,by simp [hst]⟩
      rw [this];simp)
   | (rw [decide_eq_true (show l.length≤300 by omega),List.all_eq_true.2 (fun j hj=>hp.2 j (by have:=List.mem_range.1 hj;omega))];rfl)
 simp only[↓cqA,cqB]at c1
 refine qV (qq (qq (qad ?_)));refine qa (qd (qb (zX E (zK (qn (zI hL (qg E qh) ?_ ?_))))))
 ·rfl
 refine ⟨q7 ?_,rfl⟩
 symm
 rw [qcA]
 first
  | (rw [decide_eq_false (show ¬ l.length≤300 by omega)];rfl)
  | (have hst:qfv l k=false:=by
      rw [qbM hu,hy]
      first|(rw [l19];rfl)|(rw [c2];simp;done)|(simp;omega)
     have:(List.range l.length).all (qfv l)=false:=List.all_eq_false.2 ⟨k,by simp;omega,by simp [hst]⟩
     rw [this];simp)
  | (rw [decide_eq_true (show l.length≤300 by omega),List.all_eq_true.2 (fun j hj=>hp.2 j (by have:=List.mem_range.1 hj;omega))];rfl)
end Go.Proofs.YtpgceiijoedppaaGreat
namespace Go.Proofs.YtpgceiijoedppaaGreat
open Go
theorem qhd {l:List Kp}(h:qcA l=true):l.length≤300∧∀ k∈l,qer k.f=true:=by
 simp only [qcA,Bool.and_eq_true,decide_eq_true_eq,List.all_eq_true,List.mem_range] at h
 refine ⟨h.1,fun k hk=>?_⟩
 obtain ⟨j,hj⟩:=List.getElem?_of_mem hk
 have:=h.2 j (List.getElem?_eq_some_iff.1 hj).1
 rw [qbM hj] at this
 simp only [Bool.and_eq_true] at this
 exact this.1.1.1
def wK (k:Kp):Int:=wT k.f.t
def wKs (l:List Kp):Int:=wgtL wK l.length l
theorem qlA (l:List Kp)(hl:qbt l)(hw:∀ k∈l,k.wf):PF 74 [.dat false 7 (kpDs l)] (iv (wKs l)):=by
 have hlen:=qc3 l
 have hF:∀ u,u∈l→0≤wK u∧wK u≤4362862138900000:=fun u hu=>qdI u.f.t (hw u hu).2.1
 simp only [qbt] at hl
 refine qI Tryz.func74 E Tryz.ntmps74 zL fun c hL hQ hDD=>(qd (qb (zX E (zK (qd (qb ?_))))));refine zX E (zA E (qu E qaf E) ?_)
 refine zX E (zK (qd (qd (qb (zX E (qc ?_))))));refine qa (qv (qac (l.length) (fun k=>k≤l.length∧∀ j,j<k→wgtL wK l.length (l.take j)<1048576) (fun k=>⟨[(0,.dat false 7 (kpDs l)),(3,iv (wgtL wK l.length (l.take k))),(4,iv (k:Int))],[]⟩) (⟨by omega,fun j hj=>absurd hj zO⟩) ?_ (fun k hk hp=>?_)))
 ·exact zR hL (zC E (SubT.cons (qaw E (by exact qan (by simp only [List.take_zero,wgtL];omega))) (zC E SubT.nil))) SubO.nil
 have hwk:=qfF wK 4362862138900000 (by omega) l.length (l.take k) (fun u hu=>(hF u (List.mem_of_mem_take hu)).2) (by omega)
 have hw0:=qbJ wK l.length (l.take k) (fun u hu=>(hF u (List.mem_of_mem_take hu)).1)
 refine qd (qd (qb (zX E (zX E (zA E (qu E qaf E) (zA E (qj E E E E) (zX E ?_)))))));refine qE 11 E (fun g11=>?_) (fun g11=>?_)
 ·simp only[↓cqA,cqB]at g11
  obtain ⟨u,hu⟩:=qM (l:=l) (k:=k) (by omega)
  have hum:=List.mem_of_getElem? hu
  have huw:=hF u hum
  have hws:wK u=wT u.f.t:=rfl
  have hut:=(hw u hum).2.1
  refine zZ E (ql (.inl E) E) (zZ E (qj E E E E) (zA E (qk E E E) (zK (qo E (fun c0=>?_) (fun c0=>?_)))))
  ·simp only[↓cqA,cqB]at c0
   refine qr (qa (qd (qv (qb (zX E (zX E (zX E ?_)))))));refine zA E (qp E qaf E E zO (qby hu)) (zA E (qJ E qaM E) (zA E (qJ E qbh E) (zA E (qgo E qz E E E) (qH (avs:=[_,_]) true E E E zD qbG E E (qeq u.f.t hut) E E (zA E (qO E E E zO) (zX E (qc (qR (qa (qb (zX E (zA E (qO E E E zO) (zX E (qc ?_))))))))))))))
   have hb:=qeL wK l.length (l.take k) u (fun j hj=>by
    by_cases hjk:j<k
    ·have:=hp.2 j hjk;rwa [List.take_take,Nat.min_eq_left (by omega)]
    ·rw [List.take_of_length_le (by simp;omega)];omega)
   rw [← qas hu] at hb
   refine qa ?_;refine ⟨?_,?_,?_⟩
   ·omega
   ·refine ⟨by omega,fun j hj=>?_⟩
    by_cases hjk:j<k
    ·exact hp.2 j hjk
    ·rw [show j=k by omega];omega
   exact zR hL (zC E (SubT.cons (qaw E (by exact qan (by rw [hb];try omega))) (zC E SubT.nil))) SubO.nil
  simp only[↓cqA,cqB]at c0
  have hfin:wgtL wK l.length (l.take k)=wgtL wK l.length l:=((qea wK _ _ k hp.1 hp.2).trans (qeK _ _ _ (by omega))).symm
  refine qV (qq (qq (qad ?_)));refine qa (qd (qb (zX E (zX E (zK (qn (zI hL (qg E qh) ?_ ?_)))))))
  ·rfl
  exact ⟨qbx hfin,rfl⟩
 simp only[↓cqA,cqB]at g11
 have hfin:wgtL wK l.length (l.take k)=wgtL wK l.length l:=by rw [List.take_of_length_le (by omega)]
 refine zY E (zY E (zA E (qk E E E) (zK (qaA E (qV (qq (qq (qad ?_))))))));refine qa (qd (qb (zX E (zX E (zK (qn (zI hL (qg E qh) ?_ ?_)))))))
 ·rfl
 exact ⟨qbx hfin,rfl⟩
theorem qno (l:List Kp)(hl:qbt l)(hw:∀ k∈l,k.wf):0≤wKs l∧wKs l≤4600000000000000:=by
 have hF:∀ u,u∈l→0≤wK u∧wK u≤4362862138900000:=fun u hu=>qdI u.f.t (hw u hu).2.1
 have h1:=qfF wK 4362862138900000 (by omega) l.length l (fun u hu=>(hF u hu).2) (by simp only [qbt] at hl;omega)
 have h2:=qbJ wK l.length l (fun u hu=>(hF u hu).1)
 simp only [wKs];omega
abbrev sa:ByteArray:=⟨#[97]⟩
def f0:Ft:=⟨nmT sa [],1,2⟩
def l0:List Kp:=[⟨7,f0⟩]
theorem qqR (w:World)(a b c d:Int):(binOp .eql 53 (.agg #[.int .i64 a,.int .i64 b]) (.agg #[.int .i64 c,.int .i64 d])).run Tryz.prog w=.ok (.bool (a==c&&b==d)) w:=by
 have u3:=Tryz.underlying3
 have a3:=Tryz.isAgg3
 have z3:=Tryz.sizeOf3
 have hS:Tryz.prog.underlying 53=some (.struct (Tryz.prog.fieldsOf 53)):=by kernel_rfl
 have hp:Tryz.prog.stoodInHeld 53=false:=by kernel_rfl
 rw [run_eql_struct,show (10000:Nat)=9999+1 from rfl,run_equalIn_agg w 9999 53 _ _ hS hp]
 simp only [Program.fieldsOf,Tryz.underlying53]
 go_simp
 by_cases h1:a=c<;>by_cases h2:b=d<;>simp [h1,h2]
theorem qfd {c:Ctx}{N:Nat}{σ:St}{o:Oper}{x y:Operand}{t':TypeId}{a b p q:Int}(ho:o.op=.binOp .eql 53 x y t')(hx:ev σ.T x=some (.agg [iv a,iv b]))(hy:ev σ.T y=some (.agg [iv p,iv q])):Stp Tryz.prog c N o σ [] (.imm (.bool (a==p&&b==q))) []:=by
 refine qaN fun σ' h1 _ st w ρ S hc=>⟨_,?_,by simp only [Rep];rfl⟩
 have hx':=qaz hc (h1 x (by simp [ho,Op.operands]) _ hx)
 have hy':=qaz hc (h1 y (by simp [ho,Op.operands]) _ hy)
 simp only [Rep,RepL] at hx' hy'
 obtain ⟨_,hxe,_,_,_,rfl,rfl,_,_,rfl,rfl,rfl⟩:=hx'
 obtain ⟨_,hye,_,_,_,rfl,rfl,_,_,rfl,rfl,rfl⟩:=hy'
 simp only [execOp,ho,hxe,hye]
 simp only [Sem.run_bind,run_eqGuard_agg (P:=Tryz.prog) w .eql 53 x y _ _ (by kernel_rfl),Result.andThen_ok]
 have:=qqR w a b p q
 simp only [List.toArray] at*
 simp [Sem.run_bind,this]
def eqF (a b:Ft):Bool:=eqT 5 a.t b.t&&(a.fr==b.fr&&a.to==b.to)
theorem qoz (a b:Ft)(hd:dle 5 a.t)(ha:a.wf)(hb:b.wf):PF 58 [ftA a,ftA b] (bv (eqF a b)):=by
 have ha1:=ha.1
 have hb1:=hb.1
 refine qI Tryz.func58 E Tryz.ntmps58 zL fun c hL hQ hDD=>(qd (qb (qt E E zD (q6 2 E E E) E (qt E E zD (q6 3 E E E) E (zX E (zK ?_))))));refine qd (qb (zA E (qe E qbh E) (zA E (qi E qz E E E E E) (zA E (qe E qbh E) (zA E (qi E qz E E E E E) (qH (avs:=[_,_]) true E E E zD qbg E E (qeT 5 a.t b.t hd ha1 hb1) E E (zX E (qE 10 E (fun g10=>?_) (fun g10=>?_)))))))))
 ·refine zZ E (qe E qct E) (zZ E (qi E qav E E E E E) (zZ E (qe E qct E) (zZ E (qi E qav E E E E E) (zZ E (qfd E E E) (zA E (qk E E E) (zX E (zK (qn (zI hL (qg E qh) ?_ ?_)))))))))
  ·rfl
  refine ⟨q7 ?_,rfl⟩
  simp_all [eqF]
 refine zY E (zY E (zY E (zY E (zY E (zA E (qk E E E) (zX E (qc ?_)))))));refine qa (qn (zI hL (qg E qh) ?_ ?_))
 ·rfl
 refine ⟨q7 ?_,rfl⟩
 simp_all [eqF]
theorem qnI (f g:Tm→Tm→Int):∀ (l m:List Tm) (n:Int),l.length=m.length→(∀ u∈l,∀ v∈m,f u v=g u v)→ordL g n l m=if n=0 then cmpL f l m else n
 | [],[],n,_,_=>by
   simp only [ordL,cmpL];split
   ·rename_i h;exact h
   ·rfl
 | a::l,b::m,n,hl,h=>by
   have ih:=qnI f g l m (g a b) (by simpa using hl) (fun u hu v hv=>h u (by simp [hu]) v (by simp [hv]))
   have h0:=h a (by simp) b (by simp)
   simp only [ordL,cmpL]
   split
   ·rw [ih,h0]
   ·rfl
 | [],_::_,_,hl,_=>by simp at hl
 | _::_,[],_,hl,_=>by simp at hl
theorem qhl (a:Int):cmpI a a=0:=(qc8 a a).2 rfl
theorem qsx (a:ByteArray):cmpS a a=0:=(qgf a a).2 rfl
theorem qsv:∀ (d:Nat) (a b:Tm),dle d a→a.shp→b.shp→cmpT d a b=ordT d a b
 | 0,a,b,h,_,_=>h.elim
 | d+1,a,b,h,sa,sb=>by
   have ta:=((Tm.shp_iff a).1 sa).1
   have tb:=((Tm.shp_iff b).1 sb).1
   by_cases hk:a.kind=b.kind
   case neg=>
    have h1:cmpI a.kind b.kind≠0:=fun e=>hk ((qc8 _ _).1 e)
    rw [ordT,if_pos hk,cmpT]
    simp [orL,h1]
   have hk':¬ a.kind≠b.kind:=by simpa using hk
   have h1:cmpI a.kind b.kind=0:=(qc8 _ _).2 hk
   rcases ta with ⟨k1,_,n1,l1⟩|⟨k1,_,n1,l1⟩|⟨k1,_,n1,l1⟩
   ·rw [ordT,if_neg hk',if_pos k1,cmpT]
    have k2:b.kind=1:=by omega
    rcases tb with ⟨_,_,n2,l2⟩|⟨e,_⟩|⟨e,_⟩
    ·rw [n1,n2,l1,l2,h1]
     simp only [orL,qhl,List.length_nil,cmpL]
     by_cases hz:cmpS a.name b.name=0<;>simp [hz]
    ·omega
    ·omega
   ·rw [ordT,if_neg hk',if_neg (show ¬ a.kind=1 by omega),if_pos k1,cmpT]
    rcases tb with ⟨e,_⟩|⟨_,_,n2,l2⟩|⟨e,_⟩
    ·omega
    ·have e1:a.name=b.name:=by
      have x1:a.name=⟨#[]⟩:=ByteArray.ext (Array.eq_empty_of_size_eq_zero n1)
      have x2:b.name=⟨#[]⟩:=ByteArray.ext (Array.eq_empty_of_size_eq_zero n2)
      rw [x1,x2]
     rw [l1,l2,h1,e1]
     simp only [orL,qhl,qsx,List.length_nil,cmpL]
     by_cases hz:cmpI a.n b.n=0<;>simp [hz]
    ·omega
   ·rw [ordT,if_neg hk',if_neg (show ¬ a.kind=1 by omega),if_neg (show ¬ a.kind=2 by omega),cmpT]
    rcases tb with ⟨e,_⟩|⟨e,_⟩|⟨_,_,n2,l2⟩
    ·omega
    ·omega
    ·have ih:∀ u∈a.args,∀ v∈b.args,cmpT d u v=ordT d u v:=fun u hu v hv=>qsv d u v (h u hu) (sa.arg hu) (sb.arg hv)
     rw [n1,n2,h1]
     by_cases hl:cmpI a.args.length b.args.length=0
     ·have hlen:a.args.length=b.args.length:=by have:=(qc8 _ _).1 hl;omega
      rw [if_pos hl,qnI (cmpT d) (ordT d) a.args b.args _ hlen ih]
      by_cases hn:cmpS a.name b.name=0
      ·simp [orL,qhl,hl,hn]
      ·simp [orL,qhl,hl,hn]
     ·rw [if_neg hl]
      have:ordL (ordT d) (cmpI a.args.length b.args.length) a.args b.args=cmpI a.args.length b.args.length:=by
       cases ha:a.args<;>cases hb:b.args<;>simp only [ordL]
       rw [ha,hb] at hl
       rw [if_neg hl]
      rw [this]
      simp [orL,qhl,hl]
theorem qd8 {f:Ft}(h:qer f=true):mayT f.t=true∧f.t.shp∧dle 5 f.t:=⟨qcV h,qdd (qcV h),qbN (qcV h)⟩
theorem qol {a b:Ft}(hd:dle 5 a.t):cmpF a b=0↔eqF a b=true:=by
 have h1:=qge 5 a.t b.t hd
 have h2:=qc8 a.fr b.fr
 have h3:=qc8 a.to b.to
 simp only [cmpF,orL,eqF,Bool.and_eq_true,beq_iff_eq,← h1,← h2,← h3]
 split
 ·rename_i e1
  split
  ·rename_i e2
   split
   ·rename_i e3;simp [e1,e2,e3]
   ·rename_i e3;simp [e1,e2,e3]
  ·rename_i e2;simp [e1,e2]
 ·rename_i e1;simp [e1]
end Go.Proofs.YtpgceiijoedppaaGreat