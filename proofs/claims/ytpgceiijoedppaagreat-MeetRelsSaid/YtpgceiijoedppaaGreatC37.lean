/- Part 37 of the proof: Ne. -/
import Derived.Test.YtpgceiijoedppaaGreatC34
import Derived.Test.YtpgceiijoedppaaGreatC35
set_option linter.unusedVariables false
set_option linter.unusedSimpArgs false
set_option maxRecDepth 8000
namespace Go.Proofs.YtpgceiijoedppaaGreat
open Go
variable {J:List (Option (List D))}{d y:List D}{i k n:Nat}{l:List Mt}{m u:Mt}
theorem LOq {c:Ctx}{Oin O1:List (Nat×Ob)}(hL:∀ l,c.L l↔inD Oin l=true)(h:(Oin.all fun p=>inD O1 p.1)=true):∀ l,c.L l→inD O1 l=true:=fun l hl=>by
 obtain ⟨p,hp,rfl⟩:=qmO ((hL l).1 hl)
 exact List.all_eq_true.1 h p hp
theorem MOk.wf (h:MOk n m)(hn:n≤1000000):m.wf:=by
 have h1:=h.lo;have h2:=h.mid;have h3:=h.hi;have h4:=h.ul
 have h5:=h.gg.gb.len
 exact ⟨⟨by simp only [qbt];omega,fun b hb=>(h.gg.gb.el b hb).1⟩,⟨by simp only [i64];omega,by simp only [i64];omega⟩,by simp only [qbt];omega,h.ui⟩
theorem MOk.dle (h:MOk n m):∀ x∈m.b,Go.Proofs.YtpgceiijoedppaaGreat.dle 5 x.t:=fun x hx=>qbN (h.gg.gb.el x hx).2.2
def qd3:List D:=[.imm (.slice none 0 0),.imm (.int .i64 0),.imm (.int .i64 0),.imm (.slice none 0 0)]
def qcT (l:List Mt)(i:Nat)(y:List D):List (List D):=mtDs (l.take (l.length-i))++y::mtDs (l.drop (l.length-i))
theorem qbv (l:List Mt)(i:Nat)(y:List D):(qcT l i y).length=l.length+1:=by
 simp only [qcT,List.length_append,List.length_cons,qah,List.length_take,List.length_drop];omega
theorem qhy (hi:i<l.length)(hu:l[l.length-i-1]?=some u):(qcT l i y)[l.length-i-1]?=some (mtD u):=by
 rw [qcT,List.getElem?_append_left (by rw [qah,List.length_take];omega)]
 exact qbR (by rw [List.getElem?_take,if_pos zO];exact hu)
theorem qfW:(qcT l i y).set (l.length-i) d=mtDs (l.take (l.length-i))++d::mtDs (l.drop (l.length-i)):=by
 have e:(mtDs (l.take (l.length-i))).length=l.length-i:=by rw [qah,List.length_take];omega
 rw [qcT,List.set_append_right _ _ (by omega),e,Nat.sub_self,List.set_cons_zero]
theorem qgr (hi:i<l.length)(hu:l[l.length-i-1]?=some u):(qcT l i y).set (l.length-i) (mtD u)=qcT l (i+1) (mtD u):=by
 rw [qfW,qcT]
 have h1:l.take (l.length-i)=l.take (l.length-(i+1))++[u]:=by
  rw [show l.length-i=(l.length-(i+1))+1 by omega]
  exact qas (by rw [show l.length-(i+1)=l.length-i-1 by omega];exact hu)
 have h2:l.drop (l.length-(i+1))=u::l.drop (l.length-i):=by
  obtain ⟨q1,q2⟩:=List.getElem?_eq_some_iff.1 hu
  rw [show l.length-(i+1)=l.length-i-1 by omega,List.drop_eq_getElem_cons q1,q2,show l.length-i-1+1=l.length-i by omega]
 rw [h1,h2]
 simp [mtDs]
theorem qpZ (hk:posG ordM m l=k)(hp:0<k)(hu:l[k-1]?=some u):qh4 ordM m l=decide (ordM u m=0):=by
 obtain ⟨q,rfl⟩:∃ q,k=q+1:=⟨k-1,by omega⟩
 rw [Nat.add_sub_cancel] at hu
 rw [qh4,hk]
 simp only [hu]
theorem qpY (hk:posG ordM m l=0):qh4 ordM m l=false:=by rw [qh4,hk]
theorem qdB {l:List (List D)}(h:i<l.length):(l.map some++J).set i (some d)=(l.set i d).map some++J:=by
 rw [List.set_append_left _ _ (by simpa using h),List.map_set]
theorem qeZ {l:List (List D)}(h:l[i]?=some d):(l.map some++J)[i]?=some (some d):=by
 rw [List.getElem?_append_left (by simpa using (List.getElem?_eq_some_iff.1 h).1),List.getElem?_map,h];rfl
theorem qix (h:putG ordM l m=l.take (posG ordM m l)++m::l.drop (posG ordM m l)):(putG ordM l m).length=l.length+1:=by
 have:=qh8 ordM m l
 rw [h];simp;omega
theorem qh7 (m:Mt)(hm:m.wf):AC Tryz.prog 62 [.imm (.slice none 0 0),mtA m] [] (fun r O=>r=.row 9∧O=[(9,.rowd 55 4 false (mtDs (putG ordM [] m)))]):=by
 refine qI Tryz.func62 E Tryz.ntmps62 zL fun c hL hQ hDD=>(qd (qb (qt E E zD (q6 3 E E E) E (zX E (zK (qd ?_))))));refine qb (zX E (zA E (qcB E qw E) (zX E (zK (qd (qv (qac (0) (fun k=>True) (fun k=>⟨[(0,.imm (.slice none 0 0)),(3,.ptr 3 0),(5,iv 0)],[(3,.box (lift false (mtD m)))]⟩) (trivial) ?_ (fun k hk hp=>?_))))))))
 ·exact zR hL (zC E (zC E (zC E SubT.nil))) (SubO.cons (qU E (by rfl)) SubO.nil)
 refine qd (qd ?_)
 rcases Bool.eq_false_or_eq_true (false) with l10|l10
 ·have m10:=l10
  cases l10
 have m10:=l10
 simp only[↓cqA,cqB]at m10
 refine qX 9 mixed E E E E (zU E (ql (.inl E) E) (zU E (qj (r:=.bool false) E E E (congrArg (fun b=>some (Value.bool b)) l10)) (zU E (ql (.inl E) E) (qf E zD (.skip rfl E E zD zD) (qf E zD (.skip rfl E E zD zD) (qf E zD (.skip rfl E E zD zD) (qf E zD (.skip rfl E E zD zD) (qf E zD (.skip rfl E E zD zD) (qf E zD (.skip rfl E E zD zD) ?_)))))))))
 refine qaq ⟨rfl,rfl,?_⟩;refine zY E (zY E (zA E (qk E E E) (zK (qaA E (qV (qq (qq (qad ?_))))))));refine qa (qd (qd ?_))
 rcases Bool.eq_false_or_eq_true (false) with l24|l24
 ·have m24:=l24
  cases l24
 have m24:=l24
 simp only[↓cqA,cqB]at m24
 refine qX 9 mixed E E E E (zU E (ql (.inl E) E) (zU E (qj (r:=.bool false) E E E (congrArg (fun b=>some (Value.bool b)) l24)) (zU E (ql (.inl E) E) (qf E zD (.skip rfl E E zD zD) (qf E zD (.skip rfl E E zD zD) (qf E zD (.skip rfl E E zD zD) (qf E zD (.skip rfl E E zD zD) (qf E zD (.skip rfl E E zD zD) (qf E zD (.skip rfl E E zD zD) ?_)))))))))
 refine qaq ⟨rfl,rfl,?_⟩;refine zY E (zY E (zA E (qk E E E) (zK (qaA E (qr (qa ?_))))));refine qd (qb (zX E (zA E (qaF E qao E qbd E E) (qt E E zD (qaj 38 E qw qao E E zD zD zD E E E) E (qab (qam (t:=36) (l:=36) 55 4 false E E) (qbW E E zD (qaU 39 qbL E E E E E E E E (noL hL _) zD E) E ?_))))))
 refine zX E (zK (qd (qd (qb (zX E (zA E (qbf E qw E E) ?_))))));refine zA E (qa3 E E E (by simp)) (zN rfl rfl rfl (zK (qv (qac (0) (fun k=>True) (fun k=>⟨[(0,.row 9),(3,.ptr 3 0),(5,iv 0),(6,iv 0)],[(9,.rowd 55 4 false [qd3]),(3,.box (lift false (mtD m)))]⟩) (trivial) ?_ (fun k hk hp=>?_)))))
 ·exact Sub.trans (qZ 39 9 (noL hL _) (noL hL _)) (qC (zC E (zC E (zC E (zC E SubT.nil)))) (SubO.cons (qU E (by rfl)) (SubO.cons (qU E (by rfl)) SubO.nil)) E E (noL' (noL hL) _))
 refine qd (qd (qb (zX E (zX E (zA E (qj E E E E) (zK ?_))))));refine qo E (fun c2=>?_) (fun c2=>?_)
 ·simp only[↓cqA,cqB]at c2
  omega
 simp only[↓cqA,cqB]at c2
 refine qV (qq (qq (qad ?_)));refine qa (qd (qb (zX E (zX E (zA E (qF E qK E E E E) (zA E (qcQ E qw E E E zO zD) ?_))))))
 refine qlz 0 E E E qK E E zD zD E E E E E E (zK (qd (qb (zX E (zX E (qc ?_))))));refine qa (qn ?_)
 change retQ _ _ _ _ _ _ _
 refine retO (O':=[(9,_)]) (by first|exact .inl E|exact .inr E) (qg E qh) (SubO.cons E SubO.nil) ?_ ?_ (noL' (noL hL) _) ?_
 ·rfl
 ·rfl
 exact ⟨rfl,rfl⟩
theorem qkD (l:List Mt)(hl:l.length≤1000000)(hw:∀ a∈l,a.wf∧∀ x∈a.b,dle 5 x.t)(m:Mt)(hm:m.wf)(cap:Nat)(hcap:l.length≤cap)(hmax:cap≤maxLen)(hroom:l.length+1≤cap):
  AC Tryz.prog 62 [.vw 0 0 (mtDs l).length cap,mtA m] [(0,.arr 55 4 false ((mtDs l).map some++List.replicate (cap-(mtDs l).length) none))] (fun r O=>∃ (J:List (Option (List D))) (c2:Nat),c2=(mtDs (putG ordM l m)).length+J.length∧
   ((r=.vw 0 0 (mtDs (putG ordM l m)).length c2∧O=[(0,.arr 55 4 false ((mtDs (putG ordM l m)).map some++J))])∨(r=.vw 9 0 (mtDs (putG ordM l m)).length c2∧O=[(9,.arr 55 4 false ((mtDs (putG ordM l m)).map some++J)),(0,.arr 55 4 false ((mtDs l).map some++List.replicate (cap-(mtDs l).length) none))]))):=by
 have hlen:=qah l
 have hP:=qh8 ordM m l
 have hmx:maxLen=9223372036854775807:=rfl
 have hal:((mtDs l).map some++List.replicate (cap-(mtDs l).length) (none:Option (List D))).length=cap:=by simp;omega
 refine qI Tryz.func62 E Tryz.ntmps62 zL fun c hL hQ hDD=>(qd (qb (qt E E zD (q6 3 E E E) E (zX E (zK (qd ?_))))));refine qb (zX E (zA E (qcy E qw E) (zX E (zK (qdr ⟨[(0,.vw 0 0 (mtDs l).length cap),(3,.ptr 3 0),(5,iv ((posG ordM m l:Nat):Int))],[(0,.arr 55 4 false ((mtDs l).map some++List.replicate (cap-(mtDs l).length) none)),(3,.box (lift false (mtD m)))]⟩ ?_ ?_)))))
 ·refine qv ?_;refine qac (l.length) (fun i=>i≤l.length∧∀ (j:Nat) (a:Mt),l.length-i≤j→l[j]?=some a→0<ordM a m) (fun i=>⟨[(0,.vw 0 0 (mtDs l).length cap),(3,.ptr 3 0),(5,iv ((l.length-i:Nat):Int))],[(0,.arr 55 4 false ((mtDs l).map some++List.replicate (cap-(mtDs l).length) none)),(3,.box (lift false (mtD m)))]⟩) (⟨by omega,fun j a hj ha=>by have:=(List.getElem?_eq_some_iff.1 ha).1;omega⟩) ?_ (fun i hi hpi=>?_)
  ·exact qC (zC E (zC E (SubT.cons (qaw E (by exact qan (by rw [hlen];simp))) SubT.nil))) (SubO.cons (qU rfl (by rfl)) (SubO.cons (qU E (by rfl)) SubO.nil)) E E (LOq hL E)
  refine qd (qd ?_)
  rcases Bool.eq_false_or_eq_true (decide (((l.length-i:Nat):Int)>0)) with l10|l10
  ·have m10:=l10
   simp only[↓cqA,cqB]at m10
   obtain ⟨u,hu⟩:=qM (l:=l) (k:=l.length-i-1) (by omega)
   have huw:=hw u (List.mem_of_getElem? hu)
   refine qX 9 mixed E E E E (zU E (ql (.inl E) E) (zU E (qj (r:=.bool true) E E E (congrArg (fun b=>some (Value.bool b)) l10)) (zU E (ql (.inl E) E) (zQ E (ql (.inl E) E) (zQ E (ql (.inl E) E) (zQ E (qa3 E E E zO) ?_))))))
   refine zQ E (qax E qw E E zO zO) (zQ E (qbC (i:=l.length-i-1) (j:=0) E qK E E zO (qeZ (qbR hu)) zD zD E) (zQ E (qF E qK E E E E) ?_))
   refine qaq ⟨rfl,rfl,?_⟩;refine zZ E (qai (avs:=[_,_]) true E qcJ E E (qgt u m huw.2 huw.1 hm) (fun _=>rfl) E) (zZ E (qj E E E E) (zA E (qk E E E) (zK (qo E (fun c0=>?_) (fun c0=>?_)))))
   ·simp only[↓cqA,cqB]at c0
    refine qr (qa (qv (qb (zX E (zA E (qa3 E E E zO) (zX E (qc ?_)))))));refine qR (qa ?_);refine ⟨?_,?_,?_⟩
    ·omega
    ·refine ⟨by omega,fun j a hj ha=>?_⟩
     by_cases hjk:l.length-i≤j
     ·exact hpi.2 j a hjk ha
     ·rw [show j=l.length-i-1 by omega,hu] at ha;cases ha;exact c0
    exact qC (zC E (zC E (SubT.cons (qaw E (by exact qan zO)) SubT.nil))) (SubO.cons (qU E (by rfl)) (SubO.cons (qU E (by rfl)) SubO.nil)) E E (LOq hL E)
   simp only[↓cqA,cqB]at c0
   refine qV (qq (qq (qad ?_)))
   exact qaC (qC (zC E (zC E (SubT.cons (qaw E (by first|exact qan (by rw [qg8 (k:=l.length-i) zO hpi.2 (fun a h0 ha=>by rw [hu] at ha;cases ha;omega)])|exact qan (by rw [qg8 (k:=l.length-i) zO hpi.2 (fun a h0 ha=>by omega)]))) SubT.nil))) (SubO.cons (qU E (by rfl)) (SubO.cons (qU E (by rfl)) SubO.nil)) E E (LOq hL E))
  have m10:=l10
  simp only[↓cqA,cqB]at m10
  refine qX 9 mixed E E E E (zU E (ql (.inl E) E) (zU E (qj (r:=.bool false) E E E (congrArg (fun b=>some (Value.bool b)) l10)) (zU E (ql (.inl E) E) (qf E zD (.skip rfl E E zD zD) (qf E zD (.skip rfl E E zD zD) (qf E zD (.skip rfl E E zD zD) (qf E zD (.skip rfl E E zD zD) (qf E zD (.skip rfl E E zD zD) ?_))))))))
  refine qf E zD (.skip rfl E E zD zD) (qaq ⟨rfl,rfl,?_⟩);refine zY E (zY E (zA E (qk E E E) (zK (qaA E (qV (qq (qq (qad ?_))))))))
  exact qaC (qC (zC E (zC E (SubT.cons (qaw E (by first|exact qan (by rw [qg8 (k:=l.length-i) zO hpi.2 (fun a h0 ha=>by rw [hu] at ha;cases ha;omega)])|exact qan (by rw [qg8 (k:=l.length-i) zO hpi.2 (fun a h0 ha=>by omega)]))) SubT.nil))) (SubO.cons (qU E (by rfl)) (SubO.cons (qU E (by rfl)) SubO.nil)) E E (LOq hL E))
 refine qd (qd ?_)
 rcases Bool.eq_false_or_eq_true (decide (((posG ordM m l:Nat):Int)>0)) with l24|l24
 ·have m24:=l24
  simp only[↓cqA,cqB]at m24
  obtain ⟨u,hu⟩:=qM (l:=l) (k:=posG ordM m l-1) (by omega)
  have huw:=hw u (List.mem_of_getElem? hu)
  have hsm:=qpZ E (by omega) hu
  refine qX 9 mixed E E E E (zU E (ql (.inl E) E) (zU E (qj (r:=.bool true) E E E (congrArg (fun b=>some (Value.bool b)) l24)) (zU E (ql (.inl E) E) (zQ E (ql (.inl E) E) (zQ E (ql (.inl E) E) (zQ E (qa3 E E E zO) ?_))))))
  refine zQ E (qax E qw E E zO zO) (zQ E (qbC (i:=posG ordM m l-1) (j:=0) E qK E E zO (qeZ (qbR hu)) zD zD E) (zQ E (qF E qK E E E E) ?_))
  refine qaq ⟨rfl,rfl,?_⟩;refine zZ E (qai (avs:=[_,_]) true E qcJ E E (qgt u m huw.2 huw.1 hm) (fun _=>rfl) E) (zZ E (qj E E E E) (zA E (qk E E E) (zK (qo E (fun c1=>?_) (fun c1=>?_)))))
  ·simp only[↓cqA,cqB]at c1
   have hput:putG ordM l m=l:=by rw [putG,hsm,if_pos (by simpa using c1)]
   refine qd (qb (zX E (zX E (zK (qn (qm ?_))))))
   change retQ _ _ _ _ _ _ _
   refine retO (O':=[(0,_)]) (.inl E) (qg E qh) (SubO.cons E SubO.nil) ?_ ?_ (LOq hL E) ?_
   ·rfl
   ·rfl
   rw [hput]
   exact ⟨List.replicate (cap-(mtDs l).length) none,cap,by rw [List.length_replicate];omega,.inl ⟨rfl,rfl⟩⟩
  simp only[↓cqA,cqB]at c1
  have hsf:qh4 ordM m l=false:=by first|exact hsm|(rw [hsm];simpa using c1)
  have hput:putG ordM l m=l.take (posG ordM m l)++m::l.drop (posG ordM m l):=by rw [putG,hsf,if_neg (by decide)]
  have hpl:=qix hput
  refine qr (qa (qd (qb (zX E (zA E (qaF E qao E qbd E E) (qt E E zD (qaj 38 E qw qao E E zD zD zD E E E) E (qcE 38 false 1 E E E E ?_)))))))
  refine qdn 9 (mtDs l) [qd3] qbL E E zD E E E hal.symm zO (qdJ E E) zD E (fun j x hx=>qeZ hx) E (by simp;omega) zD (fun hr=>?_) (fun hr cap2 hc1 hc2=>?_)
  ·have hone:[qd3].length=1:=rfl
   have hJ:qau ((mtDs l).map some++List.replicate (cap-(mtDs l).length) none) (mtDs l).length ([qd3].map some)=(qcT l 0 qd3).map some++(List.replicate (cap-(mtDs l).length) (none:Option (List D))).drop 1:=by
    have hse:=qhx ((mtDs l).map some) ([qd3].map some) (r:=List.replicate (cap-(mtDs l).length) none) (by simp;omega)
    rw [List.length_map] at hse
    rw [hse];simp [qcT,mtDs]
   refine zX E (zK (qd (qd (qb (zX E (zA E (qcy E qw E) ?_))))));refine zA E (qa3 E E E zO) (zX E (zK (qv (qci (α:=List D) (l.length-posG ordM m l) (fun i y=>i≤l.length-posG ordM m l) (fun i y=>⟨[(0,.vw 0 0 ((mtDs l).length+1) cap),(3,.ptr 3 0),(5,iv ((posG ordM m l:Nat):Int)),(6,iv ((l.length-i:Nat):Int))],[(0,.arr 55 4 false ((qcT l i y).map some++(List.replicate (cap-(mtDs l).length) (none:Option (List D))).drop 1)),(3,.box (lift false (mtD m)))]⟩) qd3 zO ?_ (fun i y hi hpi=>?_)))))
   ·exact qC (zC E (zC E (zC E (SubT.cons (qaw E (by exact qan (by push_cast [qah];omega))) SubT.nil)))) (SubO.cons (qU E (by exact congrArg (Ob.arr _ _ _) hJ)) (SubO.cons (qU E (by rfl)) SubO.nil)) E E (LOq hL E)
   have hsl:=qbv l i y
   refine qd (qd (qb (zX E (zX E (zA E (qj E E E E) (zK ?_))))));refine qo E (fun c2=>?_) (fun c2=>?_)
   ·simp only[↓cqA,cqB]at c2
    obtain ⟨u,hu⟩:=qM (l:=l) (k:=l.length-i-1) (by omega)
    refine qr (qa (qd (qv (qb (zX E (zX E (zX E ?_)))))));refine zX E (zA E (qa3 E E E zO) (zA E (qax E qw E E zO zO) (zA E (qbC (i:=l.length-i-1) (j:=0) E qK E E zO (qeZ (qhy zO hu)) zD zD E) ?_)))
    refine zA E (qax E qw E E zO zO) ?_;refine qca (l.length-i) E E E qK E E zO (by rw [List.length_append,List.length_map,qbv];omega) E E E E E E ?_;refine qc ?_;refine qR ?_;refine qa ?_;refine qb ?_
    refine zX E (zA E (qa3 E E E zO) (zX E (zK ?_)));refine ⟨?_,(mtD u),?_,?_⟩
    ·omega
    ·omega
    exact qC (zC E (zC E (zC E (SubT.cons (qaw E (by exact qan zO)) SubT.nil)))) (SubO.cons (qU E (by rw [qdB zO];exact congrArg (Ob.arr _ _ _) (congrArg (fun z=>List.map some z++_) (qgr zO hu)))) (SubO.cons (qU E (by rfl)) SubO.nil)) E E (LOq hL E)
   simp only[↓cqA,cqB]at c2
   refine qV (qq (qq (qad ?_)));refine qa (qd (qb (zX E (zX E (zA E (qF E qK E E E E) ?_)))))
   refine zA E (qax E qw E E zO zO) ?_;refine qca (posG ordM m l) E E E qK E E zO (by rw [List.length_append,List.length_map,qbv];omega) E E E E E E ?_;refine qc ?_;refine qa ?_;refine qd ?_;refine qb ?_;refine zX E ?_;refine zX E ?_;refine qc ?_;refine qa ?_;refine qn ?_
   change retQ _ _ _ _ _ _ _
   have he:(qcT l i y).set (posG ordM m l) (mtD m)=mtDs (putG ordM l m):=by
    have h1:posG ordM m l=l.length-i:=by omega
    rw [hput,h1,qfW]
    simp [mtDs]
   have hpl2:=qah (putG ordM l m)
   refine retO (O':=[(0,_)]) (by first|exact .inl E|exact .inr E) (qg E qh) (SubO.cons E SubO.nil) ?_ ?_ (LOq hL E) ?_
   ·rfl
   ·rfl
   refine ⟨(List.replicate (cap-(mtDs l).length) (none:Option (List D))).drop 1,cap,?_,?_⟩
   ·simp only [List.length_replicate,List.length_drop,hpl2,hpl,List.length_append]
    simp at hr
    skip
    omega
   ·rw [← he,qdB (by rw [qbv];omega),show ((qcT l i y).set (posG ordM m l) (mtD m)).length=(mtDs l).length+1 by rw [List.length_set,qbv,hlen]]
    exact .inl ⟨rfl,rfl⟩
  exfalso;simp at hr;omega
 have m24:=l24
 simp only[↓cqA,cqB]at m24
 have hsm:qh4 ordM m l=false:=qpY (by omega)
 have hput:putG ordM l m=l.take (posG ordM m l)++m::l.drop (posG ordM m l):=by rw [putG,hsm,if_neg (by decide)]
 have hpl:=qix hput
 refine qX 9 mixed E E E E (zU E (ql (.inl E) E) (zU E (qj (r:=.bool false) E E E (congrArg (fun b=>some (Value.bool b)) l24)) (zU E (ql (.inl E) E) (qf E zD (.skip rfl E E zD zD) (qf E zD (.skip rfl E E zD zD) (qf E zD (.skip rfl E E zD zD) (qf E zD (.skip rfl E E zD zD) (qf E zD (.skip rfl E E zD zD) (qf E zD (.skip rfl E E zD zD) ?_)))))))))
 refine qaq ⟨rfl,rfl,?_⟩;refine zY E (zY E (zA E (qk E E E) (zK (qaA E (qr (qa ?_))))));refine qd (qb (zX E (zA E (qaF E qao E qbd E E) (qt E E zD (qaj 38 E qw qao E E zD zD zD E E E) E (qcE 38 false 1 E E E E ?_)))))
 refine qdn 9 (mtDs l) [qd3] qbL E E zD E E E hal.symm zO (qdJ E E) zD E (fun j x hx=>qeZ hx) E (by simp;omega) zD (fun hr=>?_) (fun hr cap2 hc1 hc2=>?_)
 ·have hone:[qd3].length=1:=rfl
  have hJ:qau ((mtDs l).map some++List.replicate (cap-(mtDs l).length) none) (mtDs l).length ([qd3].map some)=(qcT l 0 qd3).map some++(List.replicate (cap-(mtDs l).length) (none:Option (List D))).drop 1:=by
   have hse:=qhx ((mtDs l).map some) ([qd3].map some) (r:=List.replicate (cap-(mtDs l).length) none) (by simp;omega)
   rw [List.length_map] at hse
   rw [hse];simp [qcT,mtDs]
  refine zX E (zK (qd (qd (qb (zX E (zA E (qcy E qw E) ?_))))));refine zA E (qa3 E E E zO) (zX E (zK (qv (qci (α:=List D) (l.length-posG ordM m l) (fun i y=>i≤l.length-posG ordM m l) (fun i y=>⟨[(0,.vw 0 0 ((mtDs l).length+1) cap),(3,.ptr 3 0),(5,iv ((posG ordM m l:Nat):Int)),(6,iv ((l.length-i:Nat):Int))],[(0,.arr 55 4 false ((qcT l i y).map some++(List.replicate (cap-(mtDs l).length) (none:Option (List D))).drop 1)),(3,.box (lift false (mtD m)))]⟩) qd3 zO ?_ (fun i y hi hpi=>?_)))))
  ·exact qC (zC E (zC E (zC E (SubT.cons (qaw E (by exact qan (by push_cast [qah];omega))) SubT.nil)))) (SubO.cons (qU E (by exact congrArg (Ob.arr _ _ _) hJ)) (SubO.cons (qU E (by rfl)) SubO.nil)) E E (LOq hL E)
  have hsl:=qbv l i y
  refine qd (qd (qb (zX E (zX E (zA E (qj E E E E) (zK ?_))))));refine qo E (fun c2=>?_) (fun c2=>?_)
  ·simp only[↓cqA,cqB]at c2
   obtain ⟨u,hu⟩:=qM (l:=l) (k:=l.length-i-1) (by omega)
   refine qr (qa (qd (qv (qb (zX E (zX E (zX E ?_)))))));refine zX E (zA E (qa3 E E E zO) (zA E (qax E qw E E zO zO) (zA E (qbC (i:=l.length-i-1) (j:=0) E qK E E zO (qeZ (qhy zO hu)) zD zD E) ?_)))
   refine zA E (qax E qw E E zO zO) ?_;refine qca (l.length-i) E E E qK E E zO (by rw [List.length_append,List.length_map,qbv];omega) E E E E E E ?_;refine qc ?_;refine qR ?_;refine qa ?_;refine qb ?_
   refine zX E (zA E (qa3 E E E zO) (zX E (zK ?_)));refine ⟨?_,(mtD u),?_,?_⟩
   ·omega
   ·omega
   exact qC (zC E (zC E (zC E (SubT.cons (qaw E (by exact qan zO)) SubT.nil)))) (SubO.cons (qU E (by rw [qdB zO];exact congrArg (Ob.arr _ _ _) (congrArg (fun z=>List.map some z++_) (qgr zO hu)))) (SubO.cons (qU E (by rfl)) SubO.nil)) E E (LOq hL E)
  simp only[↓cqA,cqB]at c2
  refine qV (qq (qq (qad ?_)));refine qa (qd (qb (zX E (zX E (zA E (qF E qK E E E E) ?_)))))
  refine zA E (qax E qw E E zO zO) ?_;refine qca (posG ordM m l) E E E qK E E zO (by rw [List.length_append,List.length_map,qbv];omega) E E E E E E ?_;refine qc ?_;refine qa ?_;refine qd ?_;refine qb ?_;refine zX E ?_;refine zX E ?_;refine qc ?_;refine qa ?_;refine qn ?_
  change retQ _ _ _ _ _ _ _
  have he:(qcT l i y).set (posG ordM m l) (mtD m)=mtDs (putG ordM l m):=by
   have h1:posG ordM m l=l.length-i:=by omega
   rw [hput,h1,qfW]
   simp [mtDs]
  have hpl2:=qah (putG ordM l m)
  refine retO (O':=[(0,_)]) (by first|exact .inl E|exact .inr E) (qg E qh) (SubO.cons E SubO.nil) ?_ ?_ (LOq hL E) ?_
  ·rfl
  ·rfl
  refine ⟨(List.replicate (cap-(mtDs l).length) (none:Option (List D))).drop 1,cap,?_,?_⟩
  ·simp only [List.length_replicate,List.length_drop,hpl2,hpl,List.length_append]
   simp at hr
   skip
   omega
  ·rw [← he,qdB (by rw [qbv];omega),show ((qcT l i y).set (posG ordM m l) (mtD m)).length=(mtDs l).length+1 by rw [List.length_set,qbv,hlen]]
   exact .inl ⟨rfl,rfl⟩
 exfalso;simp at hr;omega
theorem qkE (l:List Mt)(hl:l.length≤1000000)(hw:∀ a∈l,a.wf∧∀ x∈a.b,dle 5 x.t)(m:Mt)(hm:m.wf)(cap:Nat)(hcap:l.length≤cap)(hmax:cap≤maxLen)(hroom:cap<l.length+1):
  AC Tryz.prog 62 [.vw 0 0 (mtDs l).length cap,mtA m] [(0,.arr 55 4 false ((mtDs l).map some++List.replicate (cap-(mtDs l).length) none))] (fun r O=>∃ (J:List (Option (List D))) (c2:Nat),c2=(mtDs (putG ordM l m)).length+J.length∧
   ((r=.vw 0 0 (mtDs (putG ordM l m)).length c2∧O=[(0,.arr 55 4 false ((mtDs (putG ordM l m)).map some++J))])∨(r=.vw 9 0 (mtDs (putG ordM l m)).length c2∧O=[(9,.arr 55 4 false ((mtDs (putG ordM l m)).map some++J)),(0,.arr 55 4 false ((mtDs l).map some++List.replicate (cap-(mtDs l).length) none))]))):=by
 have hlen:=qah l
 have hP:=qh8 ordM m l
 have hmx:maxLen=9223372036854775807:=rfl
 have hal:((mtDs l).map some++List.replicate (cap-(mtDs l).length) (none:Option (List D))).length=cap:=by simp;omega
 refine qI Tryz.func62 E Tryz.ntmps62 zL fun c hL hQ hDD=>(qd (qb (qt E E zD (q6 3 E E E) E (zX E (zK (qd ?_))))));refine qb (zX E (zA E (qcy E qw E) (zX E (zK (qdr ⟨[(0,.vw 0 0 (mtDs l).length cap),(3,.ptr 3 0),(5,iv ((posG ordM m l:Nat):Int))],[(0,.arr 55 4 false ((mtDs l).map some++List.replicate (cap-(mtDs l).length) none)),(3,.box (lift false (mtD m)))]⟩ ?_ ?_)))))
 ·refine qv ?_;refine qac (l.length) (fun i=>i≤l.length∧∀ (j:Nat) (a:Mt),l.length-i≤j→l[j]?=some a→0<ordM a m) (fun i=>⟨[(0,.vw 0 0 (mtDs l).length cap),(3,.ptr 3 0),(5,iv ((l.length-i:Nat):Int))],[(0,.arr 55 4 false ((mtDs l).map some++List.replicate (cap-(mtDs l).length) none)),(3,.box (lift false (mtD m)))]⟩) (⟨by omega,fun j a hj ha=>by have:=(List.getElem?_eq_some_iff.1 ha).1;omega⟩) ?_ (fun i hi hpi=>?_)
  ·exact qC (zC E (zC E (SubT.cons (qaw E (by exact qan (by rw [hlen];simp))) SubT.nil))) (SubO.cons (qU rfl (by rfl)) (SubO.cons (qU E (by rfl)) SubO.nil)) E E (LOq hL E)
  refine qd (qd ?_)
  rcases Bool.eq_false_or_eq_true (decide (((l.length-i:Nat):Int)>0)) with l10|l10
  ·have m10:=l10
   simp only[↓cqA,cqB]at m10
   obtain ⟨u,hu⟩:=qM (l:=l) (k:=l.length-i-1) (by omega)
   have huw:=hw u (List.mem_of_getElem? hu)
   refine qX 9 mixed E E E E (zU E (ql (.inl E) E) (zU E (qj (r:=.bool true) E E E (congrArg (fun b=>some (Value.bool b)) l10)) (zU E (ql (.inl E) E) (zQ E (ql (.inl E) E) (zQ E (ql (.inl E) E) (zQ E (qa3 E E E zO) ?_))))))
   refine zQ E (qax E qw E E zO zO) (zQ E (qbC (i:=l.length-i-1) (j:=0) E qK E E zO (qeZ (qbR hu)) zD zD E) (zQ E (qF E qK E E E E) ?_))
   refine qaq ⟨rfl,rfl,?_⟩;refine zZ E (qai (avs:=[_,_]) true E qcJ E E (qgt u m huw.2 huw.1 hm) (fun _=>rfl) E) (zZ E (qj E E E E) (zA E (qk E E E) (zK (qo E (fun c0=>?_) (fun c0=>?_)))))
   ·simp only[↓cqA,cqB]at c0
    refine qr (qa (qv (qb (zX E (zA E (qa3 E E E zO) (zX E (qc ?_)))))));refine qR (qa ?_);refine ⟨?_,?_,?_⟩
    ·omega
    ·refine ⟨by omega,fun j a hj ha=>?_⟩
     by_cases hjk:l.length-i≤j
     ·exact hpi.2 j a hjk ha
     ·rw [show j=l.length-i-1 by omega,hu] at ha;cases ha;exact c0
    exact qC (zC E (zC E (SubT.cons (qaw E (by exact qan zO)) SubT.nil))) (SubO.cons (qU E (by rfl)) (SubO.cons (qU E (by rfl)) SubO.nil)) E E (LOq hL E)
   simp only[↓cqA,cqB]at c0
   refine qV (qq (qq (qad ?_)))
   exact qaC (qC (zC E (zC E (SubT.cons (qaw E (by first|exact qan (by rw [qg8 (k:=l.length-i) zO hpi.2 (fun a h0 ha=>by rw [hu] at ha;cases ha;omega)])|exact qan (by rw [qg8 (k:=l.length-i) zO hpi.2 (fun a h0 ha=>by omega)]))) SubT.nil))) (SubO.cons (qU E (by rfl)) (SubO.cons (qU E (by rfl)) SubO.nil)) E E (LOq hL E))
  have m10:=l10
  simp only[↓cqA,cqB]at m10
  refine qX 9 mixed E E E E (zU E (ql (.inl E) E) (zU E (qj (r:=.bool false) E E E (congrArg (fun b=>some (Value.bool b)) l10)) (zU E (ql (.inl E) E) (qf E zD (.skip rfl E E zD zD) (qf E zD (.skip rfl E E zD zD) (qf E zD (.skip rfl E E zD zD) (qf E zD (.skip rfl E E zD zD) (qf E zD (.skip rfl E E zD zD) ?_))))))))
  refine qf E zD (.skip rfl E E zD zD) (qaq ⟨rfl,rfl,?_⟩);refine zY E (zY E (zA E (qk E E E) (zK (qaA E (qV (qq (qq (qad ?_))))))))
  exact qaC (qC (zC E (zC E (SubT.cons (qaw E (by first|exact qan (by rw [qg8 (k:=l.length-i) zO hpi.2 (fun a h0 ha=>by rw [hu] at ha;cases ha;omega)])|exact qan (by rw [qg8 (k:=l.length-i) zO hpi.2 (fun a h0 ha=>by omega)]))) SubT.nil))) (SubO.cons (qU E (by rfl)) (SubO.cons (qU E (by rfl)) SubO.nil)) E E (LOq hL E))
 refine qd (qd ?_)
 rcases Bool.eq_false_or_eq_true (decide (((posG ordM m l:Nat):Int)>0)) with l24|l24
 ·have m24:=l24
  simp only[↓cqA,cqB]at m24
  obtain ⟨u,hu⟩:=qM (l:=l) (k:=posG ordM m l-1) (by omega)
  have huw:=hw u (List.mem_of_getElem? hu)
  have hsm:=qpZ E (by omega) hu
  refine qX 9 mixed E E E E (zU E (ql (.inl E) E) (zU E (qj (r:=.bool true) E E E (congrArg (fun b=>some (Value.bool b)) l24)) (zU E (ql (.inl E) E) (zQ E (ql (.inl E) E) (zQ E (ql (.inl E) E) (zQ E (qa3 E E E zO) ?_))))))
  refine zQ E (qax E qw E E zO zO) (zQ E (qbC (i:=posG ordM m l-1) (j:=0) E qK E E zO (qeZ (qbR hu)) zD zD E) (zQ E (qF E qK E E E E) ?_))
  refine qaq ⟨rfl,rfl,?_⟩;refine zZ E (qai (avs:=[_,_]) true E qcJ E E (qgt u m huw.2 huw.1 hm) (fun _=>rfl) E) (zZ E (qj E E E E) (zA E (qk E E E) (zK (qo E (fun c1=>?_) (fun c1=>?_)))))
  ·simp only[↓cqA,cqB]at c1
   have hput:putG ordM l m=l:=by rw [putG,hsm,if_pos (by simpa using c1)]
   refine qd (qb (zX E (zX E (zK (qn (qm ?_))))))
   change retQ _ _ _ _ _ _ _
   refine retO (O':=[(0,_)]) (.inl E) (qg E qh) (SubO.cons E SubO.nil) ?_ ?_ (LOq hL E) ?_
   ·rfl
   ·rfl
   rw [hput]
   exact ⟨List.replicate (cap-(mtDs l).length) none,cap,by rw [List.length_replicate];omega,.inl ⟨rfl,rfl⟩⟩
  simp only[↓cqA,cqB]at c1
  have hsf:qh4 ordM m l=false:=by first|exact hsm|(rw [hsm];simpa using c1)
  have hput:putG ordM l m=l.take (posG ordM m l)++m::l.drop (posG ordM m l):=by rw [putG,hsf,if_neg (by decide)]
  have hpl:=qix hput
  refine qr (qa (qd (qb (zX E (zA E (qaF E qao E qbd E E) (qt E E zD (qaj 38 E qw qao E E zD zD zD E E E) E (qcE 38 false 1 E E E E ?_)))))))
  refine qdn 9 (mtDs l) [qd3] qbL E E zD E E E hal.symm zO (qdJ E E) zD E (fun j x hx=>qeZ hx) E (by simp;omega) zD (fun hr=>?_) (fun hr cap2 hc1 hc2=>?_)
  ·exfalso;simp at hr;omega
  have hone:[qd3].length=1:=rfl
  have hJ:(mtDs l++[qd3]).map some++List.replicate (cap2-(mtDs l++[qd3]).length) (none:Option (List D))=(qcT l 0 qd3).map some++List.replicate (cap2-(mtDs l++[qd3]).length) (none:Option (List D)):=by
   simp [qcT,mtDs]
  refine zX E (zK (qd (qd (qb (zX E (zA E (qcy E qw E) ?_))))));refine zA E (qa3 E E E zO) (zX E (zK (qv (qci (α:=List D) (l.length-posG ordM m l) (fun i y=>i≤l.length-posG ordM m l) (fun i y=>⟨[(0,.vw 9 0 ((mtDs l).length+1) cap2),(3,.ptr 3 0),(5,iv ((posG ordM m l:Nat):Int)),(6,iv ((l.length-i:Nat):Int))],[(9,.arr 55 4 false ((qcT l i y).map some++List.replicate (cap2-(mtDs l++[qd3]).length) (none:Option (List D)))),(3,.box (lift false (mtD m))),(0,.arr 55 4 false ((mtDs l).map some++List.replicate (cap-(mtDs l).length) none))]⟩) qd3 zO ?_ (fun i y hi hpi=>?_)))))
  ·exact qC (zC E (zC E (zC E (SubT.cons (qaw E (by exact qan (by push_cast [qah];omega))) SubT.nil)))) (SubO.cons (qU E (by exact congrArg (Ob.arr _ _ _) hJ)) (SubO.cons (qU E (by rfl)) (SubO.cons (qU E (by rfl)) SubO.nil))) E E (LOq hL E)
  have hsl:=qbv l i y
  refine qd (qd (qb (zX E (zX E (zA E (qj E E E E) (zK ?_))))));refine qo E (fun c2=>?_) (fun c2=>?_)
  ·simp only[↓cqA,cqB]at c2
   obtain ⟨u,hu⟩:=qM (l:=l) (k:=l.length-i-1) (by omega)
   refine qr (qa (qd (qv (qb (zX E (zX E (zX E ?_)))))));refine zX E (zA E (qa3 E E E zO) (zA E (qax E qw E E zO zO) (zA E (qbC (i:=l.length-i-1) (j:=0) E qK E E zO (qeZ (qhy zO hu)) zD zD E) ?_)))
   refine zA E (qax E qw E E zO zO) ?_;refine qca (l.length-i) E E E qK E E zO (by rw [List.length_append,List.length_map,qbv];omega) E E E E E E ?_;refine qc ?_;refine qR ?_;refine qa ?_;refine qb ?_
   refine zX E (zA E (qa3 E E E zO) (zX E (zK ?_)));refine ⟨?_,(mtD u),?_,?_⟩
   ·omega
   ·omega
   exact qC (zC E (zC E (zC E (SubT.cons (qaw E (by exact qan zO)) SubT.nil)))) (SubO.cons (qU E (by rw [qdB zO];exact congrArg (Ob.arr _ _ _) (congrArg (fun z=>List.map some z++_) (qgr zO hu)))) (SubO.cons (qU E (by rfl)) (SubO.cons (qU E (by rfl)) SubO.nil))) E E (LOq hL E)
  simp only[↓cqA,cqB]at c2
  refine qV (qq (qq (qad ?_)));refine qa (qd (qb (zX E (zX E (zA E (qF E qK E E E E) ?_)))))
  refine zA E (qax E qw E E zO zO) ?_;refine qca (posG ordM m l) E E E qK E E zO (by rw [List.length_append,List.length_map,qbv];omega) E E E E E E ?_;refine qc ?_;refine qa ?_;refine qd ?_;refine qb ?_;refine zX E ?_;refine zX E ?_;refine qc ?_;refine qa ?_;refine qn ?_
  change retQ _ _ _ _ _ _ _
  have he:(qcT l i y).set (posG ordM m l) (mtD m)=mtDs (putG ordM l m):=by
   have h1:posG ordM m l=l.length-i:=by omega
   rw [hput,h1,qfW]
   simp [mtDs]
  have hpl2:=qah (putG ordM l m)
  refine retO (O':=[(9,_),(0,_)]) (by first|exact .inl E|exact .inr E) (qg E qh) (SubO.cons E (SubO.cons E SubO.nil)) ?_ ?_ (LOq hL E) ?_
  ·rfl
  ·rfl
  refine ⟨List.replicate (cap2-(mtDs l++[qd3]).length) (none:Option (List D)),cap2,?_,?_⟩
  ·simp only [List.length_replicate,List.length_drop,hpl2,hpl,List.length_append]
   simp at hr
   simp at hc1
   omega
  ·rw [← he,qdB (by rw [qbv];omega),show ((qcT l i y).set (posG ordM m l) (mtD m)).length=(mtDs l).length+1 by rw [List.length_set,qbv,hlen]]
   exact .inr ⟨rfl,rfl⟩
 have m24:=l24
 simp only[↓cqA,cqB]at m24
 have hsm:qh4 ordM m l=false:=qpY (by omega)
 have hput:putG ordM l m=l.take (posG ordM m l)++m::l.drop (posG ordM m l):=by rw [putG,hsm,if_neg (by decide)]
 have hpl:=qix hput
 refine qX 9 mixed E E E E (zU E (ql (.inl E) E) (zU E (qj (r:=.bool false) E E E (congrArg (fun b=>some (Value.bool b)) l24)) (zU E (ql (.inl E) E) (qf E zD (.skip rfl E E zD zD) (qf E zD (.skip rfl E E zD zD) (qf E zD (.skip rfl E E zD zD) (qf E zD (.skip rfl E E zD zD) (qf E zD (.skip rfl E E zD zD) (qf E zD (.skip rfl E E zD zD) ?_)))))))))
 refine qaq ⟨rfl,rfl,?_⟩;refine zY E (zY E (zA E (qk E E E) (zK (qaA E (qr (qa ?_))))));refine qd (qb (zX E (zA E (qaF E qao E qbd E E) (qt E E zD (qaj 38 E qw qao E E zD zD zD E E E) E (qcE 38 false 1 E E E E ?_)))))
 refine qdn 9 (mtDs l) [qd3] qbL E E zD E E E hal.symm zO (qdJ E E) zD E (fun j x hx=>qeZ hx) E (by simp;omega) zD (fun hr=>?_) (fun hr cap2 hc1 hc2=>?_)
 ·exfalso;simp at hr;omega
 have hone:[qd3].length=1:=rfl
 have hJ:(mtDs l++[qd3]).map some++List.replicate (cap2-(mtDs l++[qd3]).length) (none:Option (List D))=(qcT l 0 qd3).map some++List.replicate (cap2-(mtDs l++[qd3]).length) (none:Option (List D)):=by
  simp [qcT,mtDs]
 refine zX E (zK (qd (qd (qb (zX E (zA E (qcy E qw E) ?_))))));refine zA E (qa3 E E E zO) (zX E (zK (qv (qci (α:=List D) (l.length-posG ordM m l) (fun i y=>i≤l.length-posG ordM m l) (fun i y=>⟨[(0,.vw 9 0 ((mtDs l).length+1) cap2),(3,.ptr 3 0),(5,iv ((posG ordM m l:Nat):Int)),(6,iv ((l.length-i:Nat):Int))],[(9,.arr 55 4 false ((qcT l i y).map some++List.replicate (cap2-(mtDs l++[qd3]).length) (none:Option (List D)))),(3,.box (lift false (mtD m))),(0,.arr 55 4 false ((mtDs l).map some++List.replicate (cap-(mtDs l).length) none))]⟩) qd3 zO ?_ (fun i y hi hpi=>?_)))))
 ·exact qC (zC E (zC E (zC E (SubT.cons (qaw E (by exact qan (by push_cast [qah];omega))) SubT.nil)))) (SubO.cons (qU E (by exact congrArg (Ob.arr _ _ _) hJ)) (SubO.cons (qU E (by rfl)) (SubO.cons (qU E (by rfl)) SubO.nil))) E E (LOq hL E)
 have hsl:=qbv l i y
 refine qd (qd (qb (zX E (zX E (zA E (qj E E E E) (zK ?_))))));refine qo E (fun c2=>?_) (fun c2=>?_)
 ·simp only[↓cqA,cqB]at c2
  obtain ⟨u,hu⟩:=qM (l:=l) (k:=l.length-i-1) (by omega)
  refine qr (qa (qd (qv (qb (zX E (zX E (zX E ?_)))))));refine zX E (zA E (qa3 E E E zO) (zA E (qax E qw E E zO zO) (zA E (qbC (i:=l.length-i-1) (j:=0) E qK E E zO (qeZ (qhy zO hu)) zD zD E) ?_)))
  refine zA E (qax E qw E E zO zO) ?_;refine qca (l.length-i) E E E qK E E zO (by rw [List.length_append,List.length_map,qbv];omega) E E E E E E ?_;refine qc ?_;refine qR ?_;refine qa ?_;refine qb ?_
  refine zX E (zA E (qa3 E E E zO) (zX E (zK ?_)));refine ⟨?_,(mtD u),?_,?_⟩
  ·omega
  ·omega
  exact qC (zC E (zC E (zC E (SubT.cons (qaw E (by exact qan zO)) SubT.nil)))) (SubO.cons (qU E (by rw [qdB zO];exact congrArg (Ob.arr _ _ _) (congrArg (fun z=>List.map some z++_) (qgr zO hu)))) (SubO.cons (qU E (by rfl)) (SubO.cons (qU E (by rfl)) SubO.nil))) E E (LOq hL E)
 simp only[↓cqA,cqB]at c2
 refine qV (qq (qq (qad ?_)));refine qa (qd (qb (zX E (zX E (zA E (qF E qK E E E E) ?_)))))
 refine zA E (qax E qw E E zO zO) ?_;refine qca (posG ordM m l) E E E qK E E zO (by rw [List.length_append,List.length_map,qbv];omega) E E E E E E ?_;refine qc ?_;refine qa ?_;refine qd ?_;refine qb ?_;refine zX E ?_;refine zX E ?_;refine qc ?_;refine qa ?_;refine qn ?_
 change retQ _ _ _ _ _ _ _
 have he:(qcT l i y).set (posG ordM m l) (mtD m)=mtDs (putG ordM l m):=by
  have h1:posG ordM m l=l.length-i:=by omega
  rw [hput,h1,qfW]
  simp [mtDs]
 have hpl2:=qah (putG ordM l m)
 refine retO (O':=[(9,_),(0,_)]) (by first|exact .inl E|exact .inr E) (qg E qh) (SubO.cons E (SubO.cons E SubO.nil)) ?_ ?_ (LOq hL E) ?_
 ·rfl
 ·rfl
 refine ⟨List.replicate (cap2-(mtDs l++[qd3]).length) (none:Option (List D)),cap2,?_,?_⟩
 ·simp only [List.length_replicate,List.length_drop,hpl2,hpl,List.length_append]
  simp at hr
  simp at hc1
  omega
 ·rw [← he,qdB (by rw [qbv];omega),show ((qcT l i y).set (posG ordM m l) (mtD m)).length=(mtDs l).length+1 by rw [List.length_set,qbv,hlen]]
  exact .inr ⟨rfl,rfl⟩
theorem qsj (r:Int)(hr:1≤r∧r≤7)(a b u v:Int):PF 107 [iv r,.agg [iv a,iv b],.agg [iv u,iv v]] (bv (isR1 r (a,b) (u,v))):=by
 refine qI Tryz.func107 E Tryz.ntmps107 zL fun c hL hQ hDD=>(qd (qb (qt E E zD (q6 4 E E E) E (qt E E zD (q6 5 E E E) E (zX E (zK ?_))))))
 refine qd (qd (qb (zX E (zK (qv (qd ?_))))));refine qb (zA E (qj E E E E) (zX E (zK (qo E (fun c0=>?_) (fun c0=>?_)))))
 ·simp only[↓cqA,cqB]at c0
  refine qd (qb (zA E (qe E qak E) (zA E (qi E qQ E E E E E) (zA E (qe E qal E) (zA E (qi E qQ E E E E E) (zA E (qj E E E E) (zX E ?_)))))));refine zK (qn (qP (qm (zI hL (qg E qh) ?_ ?_))))
  ·rfl
  refine ⟨q7 ?_,rfl⟩
  simp only [isR1]
  rw [Bool.eq_iff_iff]
  repeat' split
  all_goals first|(exfalso;omega)|(simp;omega)|(simp;done)
 simp only[↓cqA,cqB]at c0
 refine qd (qb (zA E (qj E E E E) (zX E (zK (qo E (fun c1=>?_) (fun c1=>?_))))))
 ·simp only[↓cqA,cqB]at c1
  refine qd (qb (zA E (qe E qak E) (zA E (qi E qQ E E E E E) (zA E (qe E qal E) (zA E (qi E qQ E E E E E) (zA E (qj E E E E) (zX E ?_)))))));refine zK (qn (qP (qm (zI hL (qg E qh) ?_ ?_))))
  ·rfl
  refine ⟨q7 ?_,rfl⟩
  simp only [isR1]
  rw [Bool.eq_iff_iff]
  repeat' split
  all_goals first|(exfalso;omega)|(simp;omega)|(simp;done)
 simp only[↓cqA,cqB]at c1
 refine qd (qb (zA E (qj E E E E) (zX E (zK (qo E (fun c2=>?_) (fun c2=>?_))))))
 ·simp only[↓cqA,cqB]at c2
  refine qd (qb (zA E (qe E qal E) (zA E (qi E qQ E E E E E) (zA E (qe E qal E) (zA E (qi E qQ E E E E E) (zA E (qj E E E E) (zX E ?_)))))));refine qE 29 E (fun g29=>?_) (fun g29=>?_)
  ·simp only[↓cqA,cqB]at g29
   refine zZ E (qe E qal E) (zZ E (qi E qQ E E E E E) (zZ E (qe E qak E) (zZ E (qi E qQ E E E E E) (zZ E (qj E E E E) (zA E (qk E E E) (zX E (qE 36 E (fun g36=>?_) (fun g36=>?_))))))))
   ·simp only[↓cqA,cqB]at g36
    refine zZ E (qe E qak E) (zZ E (qi E qQ E E E E E) (zZ E (qe E qak E) (zZ E (qi E qQ E E E E E) (zZ E (qj E E E E) (zA E (qk E E E) (zX E (zK (qn (qP (qm (zI hL (qg E qh) ?_ ?_)))))))))))
    ·rfl
    refine ⟨q7 ?_,rfl⟩
    simp only [isR1]
    rw [Bool.eq_iff_iff]
    repeat' split
    all_goals first|(exfalso;omega)|(simp;omega)|(simp;done)
   simp only[↓cqA,cqB]at g36
   refine zY E (zY E (zY E (zY E (zY E (zA E (qk E E E) (zX E (qc ?_)))))));refine qa (qn (qP (qm (zI hL (qg E qh) ?_ ?_))))
   ·rfl
   refine ⟨q7 ?_,rfl⟩
   simp only [isR1]
   rw [Bool.eq_iff_iff]
   repeat' split
   all_goals first|(exfalso;omega)|(simp;omega)|(simp;done)
  simp only[↓cqA,cqB]at g29
  refine zY E (zY E (zY E (zY E (zY E (zA E (qk E E E) (zX E (zY E (zY E (zY E (zY E (zY E (zA E (qk E E E) (zX E (zK (qn (qP (qm (zI hL (qg E qh) ?_ ?_))))))))))))))))))
  ·rfl
  refine ⟨q7 ?_,rfl⟩
  simp only [isR1]
  rw [Bool.eq_iff_iff]
  repeat' split
  all_goals first|(exfalso;omega)|(simp;omega)|(simp;done)
 simp only[↓cqA,cqB]at c2
 refine qd (qb (zA E (qj E E E E) (zX E (zK (qo E (fun c3=>?_) (fun c3=>?_))))))
 ·simp only[↓cqA,cqB]at c3
  refine qd (qb (zA E (qe E qal E) (zA E (qi E qQ E E E E E) (zA E (qe E qal E) (zA E (qi E qQ E E E E E) (zA E (qj E E E E) (zX E ?_)))))));refine qE 50 E (fun g50=>?_) (fun g50=>?_)
  ·simp only[↓cqA,cqB]at g50
   refine zZ E (qe E qak E) (zZ E (qi E qQ E E E E E) (zZ E (qe E qak E) (zZ E (qi E qQ E E E E E) (zZ E (qj E E E E) (zA E (qk E E E) (zX E (zK (qn (qP (qm (zI hL (qg E qh) ?_ ?_)))))))))))
   ·rfl
   refine ⟨q7 ?_,rfl⟩
   simp only [isR1]
   rw [Bool.eq_iff_iff]
   repeat' split
   all_goals first|(exfalso;omega)|(simp;omega)|(simp;done)
  simp only[↓cqA,cqB]at g50
  refine zY E (zY E (zY E (zY E (zY E (zA E (qk E E E) (zX E (qc ?_)))))));refine qa (qn (qP (qm (zI hL (qg E qh) ?_ ?_))))
  ·rfl
  refine ⟨q7 ?_,rfl⟩
  simp only [isR1]
  rw [Bool.eq_iff_iff]
  repeat' split
  all_goals first|(exfalso;omega)|(simp;omega)|(simp;done)
 simp only[↓cqA,cqB]at c3
 refine qd (qb (zA E (qj E E E E) (zX E (zK (qo E (fun c4=>?_) (fun c4=>?_))))))
 ·simp only[↓cqA,cqB]at c4
  refine qd (qb (zA E (qe E qal E) (zA E (qi E qQ E E E E E) (zA E (qe E qal E) (zA E (qi E qQ E E E E E) (zA E (qj E E E E) (zX E ?_)))))));refine qE 64 E (fun g64=>?_) (fun g64=>?_)
  ·simp only[↓cqA,cqB]at g64
   refine zZ E (qe E qak E) (zZ E (qi E qQ E E E E E) (zZ E (qe E qak E) (zZ E (qi E qQ E E E E E) (zZ E (qj E E E E) (zA E (qk E E E) (zX E (zK (qn (qP (qm (zI hL (qg E qh) ?_ ?_)))))))))))
   ·rfl
   refine ⟨q7 ?_,rfl⟩
   simp only [isR1]
   rw [Bool.eq_iff_iff]
   repeat' split
   all_goals first|(exfalso;omega)|(simp;omega)|(simp;done)
  simp only[↓cqA,cqB]at g64
  refine zY E (zY E (zY E (zY E (zY E (zA E (qk E E E) (zX E (qc ?_)))))));refine qa (qn (qP (qm (zI hL (qg E qh) ?_ ?_))))
  ·rfl
  refine ⟨q7 ?_,rfl⟩
  simp only [isR1]
  rw [Bool.eq_iff_iff]
  repeat' split
  all_goals first|(exfalso;omega)|(simp;omega)|(simp;done)
 simp only[↓cqA,cqB]at c4
 refine qd (qb (zA E (qj E E E E) (zX E (zK (qo E (fun c5=>?_) (fun c5=>?_))))))
 ·simp only[↓cqA,cqB]at c5
  refine qd (qb (zA E (qe E qak E) (zA E (qi E qQ E E E E E) (zA E (qe E qak E) (zA E (qi E qQ E E E E E) (zA E (qj E E E E) (zX E ?_)))))));refine qE 78 E (fun g78=>?_) (fun g78=>?_)
  ·simp only[↓cqA,cqB]at g78
   refine zZ E (qe E qal E) (zZ E (qi E qQ E E E E E) (zZ E (qe E qal E) (zZ E (qi E qQ E E E E E) (zZ E (qj E E E E) (zA E (qk E E E) (zX E (zK (qn (qP (qm (zI hL (qg E qh) ?_ ?_)))))))))))
   ·rfl
   refine ⟨q7 ?_,rfl⟩
   simp only [isR1]
   rw [Bool.eq_iff_iff]
   repeat' split
   all_goals first|(exfalso;omega)|(simp;omega)|(simp;done)
  simp only[↓cqA,cqB]at g78
  refine zY E (zY E (zY E (zY E (zY E (zA E (qk E E E) (zX E (qc ?_)))))));refine qa (qn (qP (qm (zI hL (qg E qh) ?_ ?_))))
  ·rfl
  refine ⟨q7 ?_,rfl⟩
  simp only [isR1]
  rw [Bool.eq_iff_iff]
  repeat' split
  all_goals first|(exfalso;omega)|(simp;omega)|(simp;done)
 simp only[↓cqA,cqB]at c5
 refine qd (qb (zA E (qj E E E E) (zX E (zK (qo E (fun c6=>?_) (fun c6=>?_))))))
 ·simp only[↓cqA,cqB]at c6
  refine qd (qb (zA E (qF E qav E E E E) (zA E (qF E qav E E E E) (zA E (qfd E E E) (zX E (zK ?_))))));refine qn (qP (qm (zI hL (qg E qh) ?_ ?_)))
  ·rfl
  refine ⟨q7 ?_,rfl⟩
  simp only [isR1]
  rw [Bool.eq_iff_iff]
  repeat' split
  all_goals first|(exfalso;omega)|(simp;omega)|(simp;done)
 simp only[↓cqA,cqB]at c6
 omega
theorem rTurn_ok (r:Int)(hr:-1000≤r∧r≤1000):PF 164 [iv r] (iv (14-r)):=by
 refine qI Tryz.func164 E Tryz.ntmps164 zL fun c hL hQ hDD=>(qd (qb (zX E (zK (qd (qb ?_))))));refine zX E (zA E (qa3 E E E zO) (zX E (zK (qn (zI hL (qg E qh) ?_ ?_)))))
 ·rfl
 exact ⟨rfl,rfl⟩
theorem qpX (r:Int)(hr:1≤r∧r≤13)(a b u v:Int):PF 107 [iv r,.agg [iv a,iv b],.agg [iv u,iv v]] (bv (isR r (a,b) (u,v))):=by
 by_cases h7:r≤7
 ·rw [isR,if_pos h7];exact qsj r ⟨hr.1,h7⟩ a b u v
 ·rw [isR,if_neg h7]
  refine qI Tryz.func107 E Tryz.ntmps107 zL fun c hL hQ hDD=>(qd (qb (qt E E zD (q6 4 E E E) E (qt E E zD (q6 5 E E E) E (zX E (zK ?_))))))
  refine qd (qd (qb (zX E (zK (qv (qd ?_))))));refine qb (zA E (qj E E E E) (zX E (zK (qo E (fun c0=>?_) (fun c0=>?_)))))
  ·simp only[↓cqA,cqB]at c0
   omega
  simp only[↓cqA,cqB]at c0
  refine qd (qb (zA E (qj E E E E) (zX E (zK (qo E (fun c1=>?_) (fun c1=>?_))))))
  ·simp only[↓cqA,cqB]at c1
   omega
  simp only[↓cqA,cqB]at c1
  refine qd (qb (zA E (qj E E E E) (zX E (zK (qo E (fun c2=>?_) (fun c2=>?_))))))
  ·simp only[↓cqA,cqB]at c2
   omega
  simp only[↓cqA,cqB]at c2
  refine qd (qb (zA E (qj E E E E) (zX E (zK (qo E (fun c3=>?_) (fun c3=>?_))))))
  ·simp only[↓cqA,cqB]at c3
   omega
  simp only[↓cqA,cqB]at c3
  refine qd (qb (zA E (qj E E E E) (zX E (zK (qo E (fun c4=>?_) (fun c4=>?_))))))
  ·simp only[↓cqA,cqB]at c4
   omega
  simp only[↓cqA,cqB]at c4
  refine qd (qb (zA E (qj E E E E) (zX E (zK (qo E (fun c5=>?_) (fun c5=>?_))))))
  ·simp only[↓cqA,cqB]at c5
   omega
  simp only[↓cqA,cqB]at c5
  refine qd (qb (zA E (qj E E E E) (zX E (zK (qo E (fun c6=>?_) (fun c6=>?_))))))
  ·simp only[↓cqA,cqB]at c6
   omega
  simp only[↓cqA,cqB]at c6
  refine qr (qR (qa (qd (qX 4 mixed E E E E (zU E (ql (.inl E) E) (zU E (qai (avs:=[_]) true E qhL E E (rTurn_ok r zO) (fun _=>rfl) E) (zU E (qF E qav E E E E) ?_)))))));refine zU E (qF E qav E E E E) ?_
  refine qaq ⟨rfl,rfl,?_⟩;refine qH (avs:=[_,_,_]) true E E E zD qcW E E (qsj (14-r) zO u v a b) E E (zX E (zK (qn (zI hL (qg E qh) ?_ ?_))))
  ·rfl
  exact ⟨rfl,rfl⟩
theorem qkM (a u:Int):min a u=(if u<a then u else a):=by rw [Int.min_def];split<;>split<;>omega
theorem max_if (a u:Int):max a u=(if u>a then u else a):=by rw [Int.max_def];split<;>split<;>omega
theorem rHull_ok (a b u v:Int):PF 108 [.agg [iv a,iv b],.agg [iv u,iv v]] (.agg [iv (min a u),iv (max b v)]):=by
 rw [qkM,max_if]
 refine qI Tryz.func108 E Tryz.ntmps108 zL fun c hL hQ hDD=>(qd (qb (qt E E zD (q6 2 E E E) E (qt E E zD (q6 3 E E E) E (qt E E zD (qat 4 E qd2 E) E (zK ?_))))));refine qd (qb (zA E (qe E qal E) (zA E (qi E qQ E E E E E) (zA E (qe E qal E) (zA E (qi E qQ E E E E E) (zA E (qi9 E E E) (zA E (qe E qak E) (zA E (qi E qQ E E E E E) (zA E (qe E qak E) (zA E (qi E qQ E E E E E) (zA E (qrI E E E) (zA E (qaF E qd2 E qfk E E) (qT E E E qav E E E E E E E E E (zK (qn ?_)))))))))))))))
 refine zI hL (qaS qav E E E qh) ?_ ?_
 ·rfl
 exact ⟨rfl,rfl⟩
def zeroM:Mt:=⟨[],0,0,[]⟩
theorem qqj (l:List Int):qsm (inDs l)=true:=by
 simp only [qsm,inDs,List.all_map,List.all_eq_true]
 intro x _;rfl
theorem qiN (l:List Int):∀ d∈inDs l,d.length=1:=fun d hd=>by
 obtain ⟨x,_,rfl⟩:=List.mem_map.1 hd;rfl
theorem zeroM_le:Le (.agg [.imm (.slice none 0 0),iv 0,iv 0,.imm (.slice none 0 0)]) (mtA zeroM):=.agg (.cons .nil (.cons .refl (.cons .refl (.cons .nil .nil))))
def qmN (o:Option Mt)(r:AV):Prop:=(o=none∧r=.tup [.agg [.imm (.slice none 0 0),iv 0,iv 0,.imm (.slice none 0 0)],bv false])∨∃ m,o=some m∧r=.tup [mtA m,bv true]
theorem qkU {f:FuncId}{args:List AV}{o:Option Mt}(h:AC Tryz.prog f args [] (fun r O=>qmN o r∧O=[])):PF f args (.tup [mtA (o.getD zeroM),bv o.isSome]):=
 qh2 h (fun r O' h=>by
  obtain ⟨⟨rfl,rfl⟩|⟨m,rfl,rfl⟩,rfl⟩:=h
  ·exact ⟨_,.tup (.cons zeroM_le (.cons .refl .nil)),rfl,rfl⟩
  ·exact ⟨_,.refl,rfl,rfl⟩)
theorem qsi (p:Pt)(a b:Mt)(cl:List Mt)(hr:p.kind=6→1≤p.rel∧p.rel≤13)(hl:qfI p.kind p.rel a b=false):AC Tryz.prog 63 [ptA false p,mtA a,mtA b,.dat false 4 (mtDs cl)] [] (fun r O=>qmN (qb0 p.kind p.rel cl a b) r∧O=[]):=by
 have hno:qb0 p.kind p.rel cl a b=none:=by rw [qb0,hl,if_neg (by decide)]
 rw [hno]
 refine qI Tryz.func63 E Tryz.ntmps63 zL fun c hL hQ hDD=>(qd (qb (qt E E zD (q6 4 E E E) E (qt E E zD (q6 5 E E E) E (qt E E zD (q6 6 E E E) E (qt E E zD (qat 8 E qao E) E (zX E ?_)))))));refine zK (qd (qd (qb ?_)))
 refine zA E (qe E qap E) (zA E (qi E qQ E E E E E) (zK (qv (qd (qd (qb ?_))))));refine zA E (qj E E E E) (zX E (zK (qo E (fun c0=>?_) (fun c0=>?_))))
 ·simp only[↓cqA,cqB]at c0
  refine qr (qa (qo E (fun c1=>?_) (fun c1=>?_)))
  ·simp only[↓cqA,cqB]at c1
   refine qd (qb (zA E (qe E qae E) (zA E (qe E qak E) (zA E (qi E qQ E E E E E) (zA E (qe E qae E) (zA E (qe E qal E) (zA E (qi E qQ E E E E E) (zA E (qj E E E E) (zK (qo E (fun c2=>?_) (fun c2=>?_)))))))))))
   ·simp only[↓cqA,cqB]at c2
    refine qd (qb (zA E (qaF E qao E qbd E E) (qT E E E qK E E E E E E E E E (zX E (zK (qn ?_))))));refine qP (qm (zI hL (qaS qK E E E (qg E qh)) ?_ ?_))
    ·rfl
    exact ⟨.inl ⟨rfl,rfl⟩,rfl⟩
   simp only[↓cqA,cqB]at c2
   exfalso
   rw [qfI] at hl
   rw [if_pos (show p.kind=2∨p.kind=5 by omega)] at hl
   simp at hl
   omega
  simp only[↓cqA,cqB]at c1
  refine qd (qb (zA E (qj E E E E) (zX E (zK (qo E (fun c3=>?_) (fun c3=>?_))))))
  ·simp only[↓cqA,cqB]at c3
   refine qd (qb (zA E (qe E qaT E) (zA E (qi E qQ E E E E E) (zA E (qe E qae E) (zA E (qi E qav E E E E E) (zA E (qe E qae E) (zA E (qi E qav E E E E E) (qH (avs:=[_,_,_]) true E E E zD qcW E E (qpX p.rel (hr (by assumption)) a.fr a.to b.fr b.to) E E (zA E (qaB E E) (zK (qo E (fun c4=>?_) (fun c4=>?_))))))))))))
   ·simp only[↓cqA,cqB]at c4
    refine qd (qb (zA E (qaF E qao E qbd E E) (qT E E E qK E E E E E E E E E (zX E (zK (qn ?_))))));refine qP (qm (zI hL (qaS qK E E E (qg E qh)) ?_ ?_))
    ·rfl
    exact ⟨.inl ⟨rfl,rfl⟩,rfl⟩
   simp only[↓cqA,cqB]at c4
   exfalso
   rw [qfI,if_neg (by omega),if_pos (by assumption)] at hl
   rw [hl] at c4;cases c4
  simp only[↓cqA,cqB]at c3
  exfalso
  rw [qfI,if_neg (by omega),if_neg (by assumption)] at hl
  cases hl
 simp only[↓cqA,cqB]at c0
 refine qb (zA E (qj E E E E) (zX E (zK (qo E (fun c1=>?_) (fun c1=>?_)))))
 ·simp only[↓cqA,cqB]at c1
  refine qd (qb (zA E (qe E qae E) (zA E (qe E qak E) (zA E (qi E qQ E E E E E) (zA E (qe E qae E) (zA E (qe E qal E) (zA E (qi E qQ E E E E E) (zA E (qj E E E E) (zK (qo E (fun c2=>?_) (fun c2=>?_)))))))))))
  ·simp only[↓cqA,cqB]at c2
   refine qd (qb (zA E (qaF E qao E qbd E E) (qT E E E qK E E E E E E E E E (zX E (zK (qn ?_))))));refine qP (qm (zI hL (qaS qK E E E (qg E qh)) ?_ ?_))
   ·rfl
   exact ⟨.inl ⟨rfl,rfl⟩,rfl⟩
  simp only[↓cqA,cqB]at c2
  exfalso
  rw [qfI] at hl
  rw [if_pos (show p.kind=2∨p.kind=5 by omega)] at hl
  simp at hl
  omega
 simp only[↓cqA,cqB]at c1
 refine qd (qb (zA E (qj E E E E) (zX E (zK (qo E (fun c3=>?_) (fun c3=>?_))))))
 ·simp only[↓cqA,cqB]at c3
  refine qd (qb (zA E (qe E qaT E) (zA E (qi E qQ E E E E E) (zA E (qe E qae E) (zA E (qi E qav E E E E E) (zA E (qe E qae E) (zA E (qi E qav E E E E E) (qH (avs:=[_,_,_]) true E E E zD qcW E E (qpX p.rel (hr (by assumption)) a.fr a.to b.fr b.to) E E (zA E (qaB E E) (zK (qo E (fun c4=>?_) (fun c4=>?_))))))))))))
  ·simp only[↓cqA,cqB]at c4
   refine qd (qb (zA E (qaF E qao E qbd E E) (qT E E E qK E E E E E E E E E (zX E (zK (qn ?_))))));refine qP (qm (zI hL (qaS qK E E E (qg E qh)) ?_ ?_))
   ·rfl
   exact ⟨.inl ⟨rfl,rfl⟩,rfl⟩
  simp only[↓cqA,cqB]at c4
  exfalso
  rw [qfI,if_neg (by omega),if_pos (by assumption)] at hl
  rw [hl] at c4;cases c4
 simp only[↓cqA,cqB]at c3
 exfalso
 rw [qfI,if_neg (by omega),if_neg (by assumption)] at hl
 cases hl
theorem qq4 (p:Pt){q:Nat}(hn:n≤1000000)(hk:k≤1000000)(a b:Mt)(ha:MOk n a)(hb:MOk k b)(cl:List Mt)(hc:∀ x∈cl,MOk q x)(hcl:cl.length≤1000000)(hr:p.kind=6→1≤p.rel∧p.rel≤13)(hl:qfI p.kind p.rel a b=true):AC Tryz.prog 63 [ptA false p,mtA a,mtA b,.dat false 4 (mtDs cl)] [] (fun r O=>qmN (qb0 p.kind p.rel cl a b) r∧O=[]):=by
 have hlc:=qah cl
 have hga:=ha.gg.gb.bok
 have hgb:=hb.gg.gb.bok
 have hau:=ha.ul
 have hbu:=hb.ul
 have l1:=qbH a.u
 have l2:=qbH b.u
 refine qI Tryz.func63 E Tryz.ntmps63 zL fun c hL hQ hDD=>(qd (qb (qt E E zD (q6 4 E E E) E (qt E E zD (q6 5 E E E) E (qt E E zD (q6 6 E E E) E (qt E E zD (qat 8 E qao E) E (zX E ?_)))))));refine zK (qdr ⟨[(3,.dat false 4 (mtDs cl)),(5,.ptr 5 0),(6,.ptr 6 0),(8,.ptr 8 0)],[(5,.box (lift false (mtD a))),(6,.box (lift false (mtD b))),(8,.box [.imm (.slice none 0 0),iv 0,iv 0,.imm (.slice none 0 0)])]⟩ ?_ ?_)
 ·refine qd (qb (zA E (qe E qap E) (zA E (qi E qQ E E E E E) (zK (qv (qd ?_))))));refine qd (qb (zA E (qj E E E E) (zX E (zK (qo E (fun c0=>?_) (fun c0=>?_))))))
  ·simp only[↓cqA,cqB]at c0
   refine qr (qa (qo E (fun c1=>?_) (fun c1=>?_)))
   ·simp only[↓cqA,cqB]at c1
    refine qd (qb (zA E (qe E qae E) (zA E (qe E qak E) (zA E (qi E qQ E E E E E) (zA E (qe E qae E) (zA E (qe E qal E) (zA E (qi E qQ E E E E E) (zA E (qj E E E E) (zK (qo E (fun c2=>?_) (fun c2=>?_)))))))))))
    ·simp only[↓cqA,cqB]at c2
     exfalso
     rw [qfI] at hl
     rw [if_pos (show p.kind=2∨p.kind=5 by omega)] at hl
     simp at hl
     omega
    simp only[↓cqA,cqB]at c2
    refine qr (qR ?_)
    exact qaC (qC (zC E (zC E (zC E (zC E SubT.nil)))) (SubO.cons (qU E (by rfl)) (SubO.cons (qU E (by rfl)) (SubO.cons (qU E (by rfl)) SubO.nil))) E E (noL' (noL hL) _))
   simp only[↓cqA,cqB]at c1
   refine qd (qb (zA E (qj E E E E) (zX E (zK (qo E (fun c3=>?_) (fun c3=>?_))))))
   ·simp only[↓cqA,cqB]at c3
    refine qd (qb (zA E (qe E qaT E) (zA E (qi E qQ E E E E E) (zA E (qe E qae E) (zA E (qi E qav E E E E E) (zA E (qe E qae E) (zA E (qi E qav E E E E E) (qH (avs:=[_,_,_]) true E E E zD qcW E E (qpX p.rel (hr (by assumption)) a.fr a.to b.fr b.to) E E (zA E (qaB E E) (zK (qo E (fun c4=>?_) (fun c4=>?_))))))))))))
    ·simp only[↓cqA,cqB]at c4
     exfalso
     rw [qfI,if_neg (by omega),if_pos (by assumption)] at hl
     rw [hl] at c4;cases c4
    simp only[↓cqA,cqB]at c4
    refine qr (qR ?_)
    exact qaC (qC (zC E (zC E (zC E (zC E SubT.nil)))) (SubO.cons (qU E (by rfl)) (SubO.cons (qU E (by rfl)) (SubO.cons (qU E (by rfl)) SubO.nil))) E E (noL' (noL hL) _))
   simp only[↓cqA,cqB]at c3
   refine qr (qR ?_)
   exact qaC (qC (zC E (zC E (zC E (zC E SubT.nil)))) (SubO.cons (qU E (by rfl)) (SubO.cons (qU E (by rfl)) (SubO.cons (qU E (by rfl)) SubO.nil))) E E (noL' (noL hL) _))
  simp only[↓cqA,cqB]at c0
  refine qb (zA E (qj E E E E) (zX E (zK (qo E (fun c1=>?_) (fun c1=>?_)))))
  ·simp only[↓cqA,cqB]at c1
   refine qd (qb (zA E (qe E qae E) (zA E (qe E qak E) (zA E (qi E qQ E E E E E) (zA E (qe E qae E) (zA E (qe E qal E) (zA E (qi E qQ E E E E E) (zA E (qj E E E E) (zK (qo E (fun c2=>?_) (fun c2=>?_)))))))))))
   ·simp only[↓cqA,cqB]at c2
    exfalso
    rw [qfI] at hl
    rw [if_pos (show p.kind=2∨p.kind=5 by omega)] at hl
    simp at hl
    omega
   simp only[↓cqA,cqB]at c2
   refine qr (qR ?_)
   exact qaC (qC (zC E (zC E (zC E (zC E SubT.nil)))) (SubO.cons (qU E (by rfl)) (SubO.cons (qU E (by rfl)) (SubO.cons (qU E (by rfl)) SubO.nil))) E E (noL' (noL hL) _))
  simp only[↓cqA,cqB]at c1
  refine qd (qb (zA E (qj E E E E) (zX E (zK (qo E (fun c3=>?_) (fun c3=>?_))))))
  ·simp only[↓cqA,cqB]at c3
   refine qd (qb (zA E (qe E qaT E) (zA E (qi E qQ E E E E E) (zA E (qe E qae E) (zA E (qi E qav E E E E E) (zA E (qe E qae E) (zA E (qi E qav E E E E E) (qH (avs:=[_,_,_]) true E E E zD qcW E E (qpX p.rel (hr (by assumption)) a.fr a.to b.fr b.to) E E (zA E (qaB E E) (zK (qo E (fun c4=>?_) (fun c4=>?_))))))))))))
   ·simp only[↓cqA,cqB]at c4
    exfalso
    rw [qfI,if_neg (by omega),if_pos (by assumption)] at hl
    rw [hl] at c4;cases c4
   simp only[↓cqA,cqB]at c4
   refine qr (qR ?_)
   exact qaC (qC (zC E (zC E (zC E (zC E SubT.nil)))) (SubO.cons (qU E (by rfl)) (SubO.cons (qU E (by rfl)) (SubO.cons (qU E (by rfl)) SubO.nil))) E E (noL' (noL hL) _))
  simp only[↓cqA,cqB]at c3
  refine qr (qR ?_)
  exact qaC (qC (zC E (zC E (zC E (zC E SubT.nil)))) (SubO.cons (qU E (by rfl)) (SubO.cons (qU E (by rfl)) (SubO.cons (qU E (by rfl)) SubO.nil))) E E (noL' (noL hL) _))
 refine qd (qb (zA E (qe E qaH E) (zA E (qi E qaK E E E E E) (zA E (qe E qaH E) (zA E (qi E qaK E E E E E) (qH (avs:=[_,_]) true E E E zD qdS E E (qmC a.b b.b hga hgb) E E (zX E (zA E (qS E E E) (zA E (qS E E E) (zX E ?_))))))))))
 refine zX E (zK (qd (qd (qb (zX E (zA E (qj E E E E) ?_))))));refine zK (qo E (fun c5=>?_) (fun c5=>?_))
 ·simp only[↓cqA,cqB]at c5
  have hno:qb0 p.kind p.rel cl a b=none:=by rw [qb0,hl,if_pos rfl,if_neg c5]
  refine qd (qb (zA E (qaF E qao E qbd E E) (qT E E E qK E E E E E E E E E (zX E (zK (qn ?_))))));refine qm (zI hL (qaS qK E E E (qg E qh)) ?_ ?_)
  ·rfl
  refine ⟨?_,rfl⟩
  first
   | (rw [hno];exact .inl ⟨rfl,rfl⟩)
   | (rw [hyes];refine .inr ⟨_,rfl,?_⟩
      simp only [mtA,mtD,inDs,List.map_append];rfl)
 simp only[↓cqA,cqB]at c5
 have hgl:=qm8 ha.gg hb.gg
 refine qr (qa (qd (qd (qb (zX E (zK ?_))))));refine qv (qac (cl.length) (fun i=>i≤cl.length∧∀ x∈cl.take i,barB (qdT a.b b.b) a b x=false) (fun i=>⟨[(3,.dat false 4 (mtDs cl)),(5,.ptr 5 0),(6,.ptr 6 0),(8,.ptr 8 0),(10,.dat true 5 (bdDs (qdT a.b b.b))),(12,iv (i:Int))],[(5,.box (lift false (mtD a))),(6,.box (lift false (mtD b))),(8,.box [.imm (.slice none 0 0),iv 0,iv 0,.imm (.slice none 0 0)])]⟩) (⟨by omega,fun x hx=>by simp at hx⟩) ?_ (fun i hi hpi=>?_))
 ·exact zR hL (zC E (zC E (zC E (zC E (zC E (zC E SubT.nil)))))) (SubO.cons (qU E (by rfl)) (SubO.cons (qU E (by rfl)) (SubO.cons (qU E (by rfl)) SubO.nil)))
 refine qd (qd (qb (zX E (zX E (zA E (qu E qw E) (zA E (qj E E E E) (qc ?_)))))));refine qa (qo E (fun c6=>?_) (fun c6=>?_))
 ·simp only[↓cqA,cqB]at c6
  obtain ⟨x,hx⟩:=qM (l:=cl) (k:=i) (by omega)
  have hxm:=hc x (List.mem_of_getElem? hx)
  refine qr (qa (qd (qv (qd (qb (zX E (zX E ?_)))))));refine zX E (zA E (qp E qw E E zO (qbR hx)) (zA E (qJ E qaH E) (zA E (qW E qaK E) ?_)))
  refine qH (avs:=[_,_]) true E E E zD qdS E E (qmC (qdT a.b b.b) x.b hgl.gb.bok hxm.gg.gb.bok) E E (zX E (zA E (qS E E E) (zA E (qS E E E) (zX E (zX E (zK ?_))))));refine qd ?_
  rcases Bool.eq_false_or_eq_true (decide (qgY (qdT a.b b.b) x.b=0)) with l67|l67
  ·have m67:=l67
   simp only[↓cqA,cqB]at m67
   rcases Bool.eq_false_or_eq_true (decide (x.fr>a.to)) with l78|l78
   ·have m78:=l78
    simp only[↓cqA,cqB]at m78
    refine qX 24 mixed E E E E (zU E (ql (.inl E) E) (zU E (qj (r:=.bool true) E E E (congrArg (fun b=>some (Value.bool b)) l67)) (zU E (ql (.inl E) E) (zQ E (ql (.inl E) E) (zQ E (ql (.inl E) E) (zQ E (qp E qw E E zO (qbR hx)) (zQ E (qJ E qae E) (zQ E (qJ E qal E) (zQ E (qW E qQ E) (zQ E (qe E qae E) ?_))))))))))
    refine zQ E (qe E qak E) (zQ E (qi E qQ E E E E E) (zQ E (qj (r:=.bool true) E E E (congrArg (fun b=>some (Value.bool b)) l78)) (zU E (qk E E E) (zU E (ql (.inl E) E) (zQ E (ql (.inl E) E) (zQ E (ql (.inl E) E) ?_))))))
    refine zQ E (qp E qw E E zO (qbR hx)) (zQ E (qJ E qae E) (zQ E (qJ E qak E) (zQ E (qW E qQ E) (zQ E (qe E qae E) ?_))))
    refine zQ E (qe E qal E) (zQ E (qi E qQ E E E E E) (qaq ⟨rfl,rfl,?_⟩));refine zZ E (qj E E E E) (zA E (qk E E E) (zK (qo E (fun c7=>?_) (fun c7=>?_))))
    ·simp only[↓cqA,cqB]at c7
     have hbar:barB (qdT a.b b.b) a b x=true:=by simp_all [barB]
     have hno:qb0 p.kind p.rel cl a b=none:=by
      rw [qb0,hl,if_pos rfl,if_pos (by assumption),if_pos (List.any_eq_true.2 ⟨x,List.mem_of_getElem? hx,hbar⟩)]
     refine qd (qb (zA E (qaF E qao E qbd E E) (qT E E E qK E E E E E E E E E (zX E (zK (qn ?_))))));refine qP (qm (qm (qP (qm (zI hL (qaS qK E E E (qg E qh)) ?_ ?_)))))
     ·rfl
     refine ⟨?_,rfl⟩
     first
      | (rw [hno];exact .inl ⟨rfl,rfl⟩)
      | (rw [hyes];refine .inr ⟨_,rfl,?_⟩
         simp only [mtA,mtD,inDs,List.map_append];rfl)
    simp only[↓cqA,cqB]at c7
    refine qr (qR (qa (qb (zX E (zA E (qO E E E zO) (zX E (qc ?_)))))));refine qa ?_;refine ⟨?_,?_,?_⟩
    ·omega
    ·refine ⟨by omega,fun y hy=>?_⟩
     rw [qas hx] at hy
     rcases List.mem_append.1 hy with hy|hy
     ·exact hpi.2 y hy
     ·rw [List.mem_singleton.1 hy]
      clear hpi
      simp_all [barB]
      try (intros;omega)
    exact zR hL (zC E (zC E (zC E (zC E (zC E (zC E SubT.nil)))))) (SubO.cons (qU E (by rfl)) (SubO.cons (qU E (by rfl)) (SubO.cons (qU E (by rfl)) SubO.nil)))
   have m78:=l78
   simp only[↓cqA,cqB]at m78
   refine qX 24 mixed E E E E (zU E (ql (.inl E) E) (zU E (qj (r:=.bool true) E E E (congrArg (fun b=>some (Value.bool b)) l67)) (zU E (ql (.inl E) E) (zQ E (ql (.inl E) E) (zQ E (ql (.inl E) E) (zQ E (qp E qw E E zO (qbR hx)) (zQ E (qJ E qae E) (zQ E (qJ E qal E) (zQ E (qW E qQ E) (zQ E (qe E qae E) ?_))))))))))
   refine zQ E (qe E qak E) (zQ E (qi E qQ E E E E E) (zQ E (qj (r:=.bool false) E E E (congrArg (fun b=>some (Value.bool b)) l78)) (zU E (qk E E E) (zU E (ql (.inl E) E) (qf E zD (.skip rfl E E zD zD) (qf E zD (.skip rfl E E zD zD) (qf E zD (.skip rfl E E zD zD) (qf E zD (.skip rfl E E zD zD) (qf E zD (.skip rfl E E zD zD) (qf E zD (.skip rfl E E zD zD) ?_))))))))))
   refine qf E zD (.skip rfl E E zD zD) (qf E zD (.skip rfl E E zD zD) (qf E zD (.skip rfl E E zD zD) (qaq ⟨rfl,rfl,?_⟩)));refine zY E ?_
   refine zA E (qk E E E) (zK (qaA E (qr (qR (qa (qb ?_))))));refine zX E (zA E (qO E E E zO) (zX E (zK ?_)));refine ⟨?_,?_,?_⟩
   ·omega
   ·refine ⟨by omega,fun y hy=>?_⟩
    rw [qas hx] at hy
    rcases List.mem_append.1 hy with hy|hy
    ·exact hpi.2 y hy
    ·rw [List.mem_singleton.1 hy]
     clear hpi
     simp_all [barB]
     try (intros;omega)
   exact zR hL (zC E (zC E (zC E (zC E (zC E (zC E SubT.nil)))))) (SubO.cons (qU E (by rfl)) (SubO.cons (qU E (by rfl)) (SubO.cons (qU E (by rfl)) SubO.nil)))
  have m67:=l67
  simp only[↓cqA,cqB]at m67
  refine qX 24 mixed E E E E (zU E (ql (.inl E) E) (zU E (qj (r:=.bool false) E E E (congrArg (fun b=>some (Value.bool b)) l67)) (zU E (ql (.inl E) E) (qf E zD (.skip rfl E E zD zD) (qf E zD (.skip rfl E E zD zD) (qf E zD (.skip rfl E E zD zD) (qf E zD (.skip rfl E E zD zD) (qf E zD (.skip rfl E E zD zD) (qf E zD (.skip rfl E E zD zD) (qf E zD (.skip rfl E E zD zD) (qf E zD (.skip rfl E E zD zD) (qf E zD (.skip rfl E E zD zD) (qf E zD (.skip rfl E E zD zD) ?_)))))))))))))
  refine zU E (qk E E E) (zU E (ql (.inl E) E) (qf E zD (.skip rfl E E zD zD) (qf E zD (.skip rfl E E zD zD) (qf E zD (.skip rfl E E zD zD) (qf E zD (.skip rfl E E zD zD) (qf E zD (.skip rfl E E zD zD) (qf E zD (.skip rfl E E zD zD) (qf E zD (.skip rfl E E zD zD) (qf E zD (.skip rfl E E zD zD) ?_)))))))))
  refine qf E zD (.skip rfl E E zD zD) (qaq ⟨rfl,rfl,?_⟩);refine zY E (zA E (qk E E E) (zK (qaA E (qr (qR (qa ?_))))));refine qb ?_
  refine zX E (zA E (qO E E E zO) (zX E (zK ?_)));refine ⟨?_,?_,?_⟩
  ·omega
  ·refine ⟨by omega,fun y hy=>?_⟩
   rw [qas hx] at hy
   rcases List.mem_append.1 hy with hy|hy
   ·exact hpi.2 y hy
   ·rw [List.mem_singleton.1 hy]
    clear hpi
    simp_all [barB]
    try (intros;omega)
  exact zR hL (zC E (zC E (zC E (zC E (zC E (zC E SubT.nil)))))) (SubO.cons (qU E (by rfl)) (SubO.cons (qU E (by rfl)) (SubO.cons (qU E (by rfl)) SubO.nil)))
 simp only[↓cqA,cqB]at c6
 refine qV (qq (qq (qad ?_)));refine qa (qd ?_)
 have hany:cl.any (barB (qdT a.b b.b) a b)=false:=List.any_eq_false.2 fun x hx=>by
  have h:=hpi.2
  rw [List.take_of_length_le (by omega)] at h
  rw [h x hx];exact Bool.noConfusion
 have hyes:qb0 p.kind p.rel cl a b=some ⟨qdT a.b b.b,min a.fr b.fr,max a.to b.to,a.u++b.u⟩:=by
  rw [qb0,hl,if_pos rfl,if_pos (by assumption),hany,if_neg (by decide)]
 refine qX 12 mixed E E E E (zU E (ql (.inl E) E) (zU E (qe E qae E) (zU E (qi E qav E E E E E) (zU E (qe E qae E) (zU E (qi E qav E E E E E) (zU E (qai (avs:=[_,_]) true E qhN E E (rHull_ok a.fr a.to b.fr b.to) (fun _=>rfl) E) (zU E (qe E qaV E) (zU E (qi E qbZ E E E E E) (qgO E E zD (qbn (avs:=[_]) true E qfp E E (qc0 3 77 (qlD true a.u zO)) (fun _=>rfl) E) (zU E (qe E qaV E) ?_))))))))))
 refine zU E (qi E qbZ E E E E E) (qgO E E zD (qju 104 qin E E E E (qqj _) E (noL hL _) (qiN _) zO E) ?_)
 refine qaq ⟨rfl,rfl,?_⟩;refine qab (qaG (l:=104) E zD (noL hL _) E E) (qab (qdi hQ) (zA E (qaF E qao E qbd E E) (qT E E E qK E E E E E E E E E (zX E (zK (qn (zI hL (qaS qK E E E (qg E qh)) ?_ ?_)))))))
 ·rfl
 refine ⟨?_,rfl⟩
 first
  | (rw [hno];exact .inl ⟨rfl,rfl⟩)
  | (rw [hyes];refine .inr ⟨_,rfl,?_⟩
     simp only [mtA,mtD,inDs,List.map_append];rfl)
end Go.Proofs.YtpgceiijoedppaaGreat