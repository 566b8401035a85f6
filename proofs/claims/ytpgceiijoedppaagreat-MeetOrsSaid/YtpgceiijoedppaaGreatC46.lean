/- Part 46 of the proof: Na, Nh. -/
import Derived.Ground.SlsfProg
import Derived.Test.YtpgceiijoedppaaGreatC33
import Derived.Test.YtpgceiijoedppaaGreatC37
set_option linter.unusedVariables false
set_option linter.unusedSimpArgs false
set_option maxRecDepth 8000
namespace Go.Proofs.YtpgceiijoedppaaGreat
open Go
variable {α:Type}
theorem Pt.wf_mem {l:List Pt}(h:Pt.wfs l){u:Pt}(hu:u∈l):u.wf:=Pt.wfs_iff.1 h u hu
theorem qjN:∀ (d:Nat),d≤30→∀ (e:Int),e=d→∀ t:Pt,t.wf→PF 76 [ptA false t,iv e] (iv (wgtP d t)):=by
 intro d
 induction d with
 | zero=>
   intro hd e he t ht
   have htw:=ht.2.1
   have hwr:=qdI t.t htw
   refine qI Tryz.func76 E Tryz.ntmps76 zL fun c hL hQ hDD=>(qd (qb (qt E E zD (q6 2 E E E) E (zX E (zK (qd ?_))))));refine qb (zA E (qe E qa6 E) (zA E (qi E qz E E E E E) (qH (avs:=[_,_]) true E E E zD qbG E E (qeq t.t htw) E E (zA E (qO E E E zO) (zX E (zK (qd (qd (qb (zX E (zA E (qj E E E E) (zK (qo E (fun c0=>?_) (fun c0=>?_))))))))))))))
   ·simp only[↓cqA,cqB]at c0
    refine qd (qb (zX E (zK (qn (qm (zI hL (qg E qh) ?_ ?_))))))
    ·rfl
    exact ⟨rfl,rfl⟩
   simp only[↓cqA,cqB]at c0
   omega
 | succ d ih=>
   intro hd e he t ht
   have htw:=ht.2.1
   have hwr:=qdI t.t htw
   obtain ⟨hlL,hwL⟩:=ht.2.2.2.1
   obtain ⟨hlR,hwR⟩:=ht.2.2.2.2.1
   obtain ⟨hlC,hwC⟩:=ht.2.2.2.2.2
   simp only [qbt] at hlL hlR hlC
   have hdl:=qaQ t.l
   have hdr:=qaQ t.r
   have hdc:=qaQ t.c
   have hB:(1048576:Int)≤4362862138900001+1048576*d:=by omega
   have hA1:=qe5 (wgtP d) (4362862138900001+1048576*d) hB (1+wT t.t) t.l (fun u hu=>qeV d u (Pt.wf_mem hwL hu)) (by omega)
   have hA2:=qe5 (wgtP d) (4362862138900001+1048576*d) hB (wgtL (wgtP d) (1+wT t.t) t.l) t.r (fun u hu=>qeV d u (Pt.wf_mem hwR hu)) hA1
   have hG1:=qbJ (wgtP d) (1+wT t.t) t.l (fun u hu=>qdo d u (Pt.wf_mem hwL hu))
   have hG2:=qbJ (wgtP d) (wgtL (wgtP d) (1+wT t.t) t.l) t.r (fun u hu=>qdo d u (Pt.wf_mem hwR hu))
   refine qI Tryz.func76 E Tryz.ntmps76 zL fun c hL hQ hDD=>(qd (qb (qt E E zD (q6 2 E E E) E (zX E (zK (qd ?_))))));refine qb (zA E (qe E qa6 E) (zA E (qi E qz E E E E E) (qH (avs:=[_,_]) true E E E zD qbG E E (qeq t.t htw) E E (zA E (qO E E E zO) (zX E (zK (qd (qd (qb (zX E (zA E (qj E E E E) (zK (qo E (fun c0=>?_) (fun c0=>?_))))))))))))))
   ·simp only[↓cqA,cqB]at c0
    omega
   simp only[↓cqA,cqB]at c0
   refine qr (qa (qdr ⟨[(1,iv e),(2,.ptr 2 0),(5,iv (wgtL (wgtP d) (1+wT t.t) t.l))],[(2,.box (lift false (ptD t)))]⟩ ?_ ?_))
   ·refine qd (qb (zX E (zK (qv (qac (t.l.length) (fun k=>k≤t.l.length∧∀ j,j<k→wgtL (wgtP d) (1+wT t.t) (t.l.take j)<1048576) (fun k=>⟨[(1,iv e),(2,.ptr 2 0),(5,iv (wgtL (wgtP d) (1+wT t.t) (t.l.take k))),(6,iv (k:Int))],[(2,.box (lift false (ptD t)))]⟩) (⟨by omega,fun j hj=>absurd hj zO⟩) ?_ (fun k hk hp=>?_))))))
    ·exact zR hL (zC E (zC E (SubT.cons (qaw E (by exact qan (by rw [List.take_zero,wgtL]))) (zC rfl SubT.nil)))) (SubO.cons (qU rfl (by rfl)) SubO.nil)
    have hw:wgtL (wgtP d) (1+wT t.t) (t.l.take k)≤1048576+(4362862138900001+1048576*d):=qe5 (wgtP d) _ (by omega) _ _ (fun u hu=>qeV d u (Pt.wf_mem hwL (List.mem_of_mem_take hu))) (by omega)
    have hw0:=qbJ (wgtP d) (1+wT t.t) (t.l.take k) (fun u hu=>qdo d u (Pt.wf_mem hwL (List.mem_of_mem_take hu)))
    refine qd (qd (qb (zX E (zA E (qe E qaP E) (zA E (qi E qB E E E E E) (zA E (qu E qy E) (zA E (qj E E E E) ?_)))))));refine zX E (qE 20 E (fun g20=>?_) (fun g20=>?_))
    ·simp only[↓cqA,cqB]at g20
     obtain ⟨u,hu⟩:=qM (l:=t.l) (k:=k) (by omega)
     have huf:=Pt.wf_mem hwL (List.mem_of_getElem? hu)
     have huw:=qeV d u huf
     have huw0:=qdo d u huf
     refine zZ E (ql (.inl E) E) (zZ E (qj E E E E) (zA E (qk E E E) (zK (qo E (fun c1=>?_) (fun c1=>?_)))))
     ·simp only[↓cqA,cqB]at c1
      refine qr (qa (qd (qv (qb (zX E (zA E (qe E qaP E) (zA E (qi E qB E E E E E) ?_)))))));refine zX E (zA E (qp E qy E E zO (qba hu)) (zA E (qD E qL E E) (zX E (zA E (qa3 E E E zO) (qH (avs:=[_,_]) true E E E zD qbS E E (ih zO (e-1) zO u huf) E E (zA E (qO E E E zO) ?_))))))
      refine zX E (qc (qR (qa (qb (zX E (zA E (qO E E E zO) (zX E ?_)))))));refine qc ?_
      have hb:=qeL (wgtP d) (1+wT t.t) (t.l.take k) u (fun j hj=>by
       by_cases hjk:j<k
       ·have:=hp.2 j hjk;rwa [List.take_take,Nat.min_eq_left (by omega)]
       ·rw [List.take_of_length_le (by simp;omega)];omega)
      rw [← qas hu] at hb
      refine qa ?_;refine ⟨?_,?_,?_⟩
      ·omega
      ·refine ⟨by omega,fun j hj=>?_⟩
       by_cases hjk:j<k
       ·exact hp.2 j hjk
       ·rw [show j=k by omega];omega
      exact zR hL (zC E (zC E (SubT.cons (qaw E (by exact qan hb.symm)) (zC E SubT.nil)))) (SubO.cons (qU E (by rfl)) SubO.nil)
     simp only[↓cqA,cqB]at c1
     have hfin:wgtL (wgtP d) (1+wT t.t) (t.l.take k)=wgtL (wgtP d) (1+wT t.t) t.l:=((qea (wgtP d) _ _ k hp.1 hp.2).trans (qeK _ _ _ (by omega))).symm
     refine qV (qq (qq (qad ?_)))
     exact qaC (qC (zC E (zC E (SubT.cons (qaw E (by exact qan (by rw [hfin]))) SubT.nil))) (SubO.cons (qU rfl (by rfl)) SubO.nil) E E (noL' (noL hL) _))
    simp only[↓cqA,cqB]at g20
    have hfin:wgtL (wgtP d) (1+wT t.t) (t.l.take k)=wgtL (wgtP d) (1+wT t.t) t.l:=by rw [List.take_of_length_le (by omega)]
    refine zY E (zY E (zA E (qk E E E) (zK (qaA E (qV (qq (qq (qad ?_))))))))
    exact qaC (qC (zC E (zC E (SubT.cons (qaw E (by exact qan (by rw [hfin]))) SubT.nil))) (SubO.cons (qU rfl (by rfl)) SubO.nil) E E (noL' (noL hL) _))
   refine qdr ⟨[(1,iv e),(2,.ptr 2 0),(5,iv (wgtL (wgtP d) (wgtL (wgtP d) (1+wT t.t) t.l) t.r))],[(2,.box (lift false (ptD t)))]⟩ ?_ ?_
   ·refine qd (qb (zX E (zK (qv (qac (t.r.length) (fun k=>k≤t.r.length∧∀ j,j<k→wgtL (wgtP d) (wgtL (wgtP d) (1+wT t.t) t.l) (t.r.take j)<1048576) (fun k=>⟨[(1,iv e),(2,.ptr 2 0),(5,iv (wgtL (wgtP d) (wgtL (wgtP d) (1+wT t.t) t.l) (t.r.take k))),(7,iv (k:Int))],[(2,.box (lift false (ptD t)))]⟩) (⟨by omega,fun j hj=>absurd hj zO⟩) ?_ (fun k hk hp=>?_))))))
    ·exact zR hL (zC E (zC E (SubT.cons (qaw E (by exact qan (by rw [List.take_zero,wgtL]))) (zC rfl SubT.nil)))) (SubO.cons (qU rfl (by rfl)) SubO.nil)
    have hw:wgtL (wgtP d) (wgtL (wgtP d) (1+wT t.t) t.l) (t.r.take k)≤1048576+(4362862138900001+1048576*d):=qe5 (wgtP d) _ (by omega) _ _ (fun u hu=>qeV d u (Pt.wf_mem hwR (List.mem_of_mem_take hu))) (by omega)
    have hw0:=qbJ (wgtP d) (wgtL (wgtP d) (1+wT t.t) t.l) (t.r.take k) (fun u hu=>qdo d u (Pt.wf_mem hwR (List.mem_of_mem_take hu)))
    refine qd (qd (qb (zX E (zA E (qe E qaO E) (zA E (qi E qB E E E E E) (zA E (qu E qy E) (zA E (qj E E E E) ?_)))))));refine zX E (qE 41 E (fun g41=>?_) (fun g41=>?_))
    ·simp only[↓cqA,cqB]at g41
     obtain ⟨u,hu⟩:=qM (l:=t.r) (k:=k) (by omega)
     have huf:=Pt.wf_mem hwR (List.mem_of_getElem? hu)
     have huw:=qeV d u huf
     have huw0:=qdo d u huf
     refine zZ E (ql (.inl E) E) (zZ E (qj E E E E) (zA E (qk E E E) (zK (qo E (fun c2=>?_) (fun c2=>?_)))))
     ·simp only[↓cqA,cqB]at c2
      refine qr (qa (qd (qv (qb (zX E (zA E (qe E qaO E) (zA E (qi E qB E E E E E) ?_)))))));refine zX E (zA E (qp E qy E E zO (qba hu)) (zA E (qD E qL E E) (zX E (zA E (qa3 E E E zO) (qH (avs:=[_,_]) true E E E zD qbS E E (ih zO (e-1) zO u huf) E E (zA E (qO E E E zO) ?_))))))
      refine zX E (qc (qR (qa (qb (zX E (zA E (qO E E E zO) (zX E ?_)))))));refine qc ?_
      have hb:=qeL (wgtP d) (wgtL (wgtP d) (1+wT t.t) t.l) (t.r.take k) u (fun j hj=>by
       by_cases hjk:j<k
       ·have:=hp.2 j hjk;rwa [List.take_take,Nat.min_eq_left (by omega)]
       ·rw [List.take_of_length_le (by simp;omega)];omega)
      rw [← qas hu] at hb
      refine qa ?_;refine ⟨?_,?_,?_⟩
      ·omega
      ·refine ⟨by omega,fun j hj=>?_⟩
       by_cases hjk:j<k
       ·exact hp.2 j hjk
       ·rw [show j=k by omega];omega
      exact zR hL (zC E (zC E (SubT.cons (qaw E (by exact qan hb.symm)) (zC E SubT.nil)))) (SubO.cons (qU E (by rfl)) SubO.nil)
     simp only[↓cqA,cqB]at c2
     have hfin:wgtL (wgtP d) (wgtL (wgtP d) (1+wT t.t) t.l) (t.r.take k)=wgtL (wgtP d) (wgtL (wgtP d) (1+wT t.t) t.l) t.r:=((qea (wgtP d) _ _ k hp.1 hp.2).trans (qeK _ _ _ (by omega))).symm
     refine qV (qq (qq (qad ?_)))
     exact qaC (qC (zC E (zC E (SubT.cons (qaw E (by exact qan (by rw [hfin]))) SubT.nil))) (SubO.cons (qU rfl (by rfl)) SubO.nil) E E (noL' (noL hL) _))
    simp only[↓cqA,cqB]at g41
    have hfin:wgtL (wgtP d) (wgtL (wgtP d) (1+wT t.t) t.l) (t.r.take k)=wgtL (wgtP d) (wgtL (wgtP d) (1+wT t.t) t.l) t.r:=by rw [List.take_of_length_le (by omega)]
    refine zY E (zY E (zA E (qk E E E) (zK (qaA E (qV (qq (qq (qad ?_))))))))
    exact qaC (qC (zC E (zC E (SubT.cons (qaw E (by exact qan (by rw [hfin]))) SubT.nil))) (SubO.cons (qU rfl (by rfl)) SubO.nil) E E (noL' (noL hL) _))
   refine qd (qd (qb (zX E (zK (qv (qac (t.c.length) (fun k=>k≤t.c.length∧∀ j,j<k→wgtL (wgtP d) (wgtL (wgtP d) (wgtL (wgtP d) (1+wT t.t) t.l) t.r) (t.c.take j)<1048576) (fun k=>⟨[(1,iv e),(2,.ptr 2 0),(5,iv (wgtL (wgtP d) (wgtL (wgtP d) (wgtL (wgtP d) (1+wT t.t) t.l) t.r) (t.c.take k))),(8,iv (k:Int))],[(2,.box (lift false (ptD t)))]⟩) (⟨by omega,fun j hj=>absurd hj zO⟩) ?_ (fun k hk hp=>?_)))))))
   ·exact zR hL (zC E (zC E (SubT.cons (qaw E (by exact qan (by rw [List.take_zero,wgtL]))) (zC rfl SubT.nil)))) (SubO.cons (qU rfl (by rfl)) SubO.nil)
   have hw:wgtL (wgtP d) (wgtL (wgtP d) (wgtL (wgtP d) (1+wT t.t) t.l) t.r) (t.c.take k)≤1048576+(4362862138900001+1048576*d):=qe5 (wgtP d) _ (by omega) _ _ (fun u hu=>qeV d u (Pt.wf_mem hwC (List.mem_of_mem_take hu))) (by omega)
   have hw0:=qbJ (wgtP d) (wgtL (wgtP d) (wgtL (wgtP d) (1+wT t.t) t.l) t.r) (t.c.take k) (fun u hu=>qdo d u (Pt.wf_mem hwC (List.mem_of_mem_take hu)))
   refine qd (qd (qb (zX E (zA E (qe E qaD E) (zA E (qi E qB E E E E E) (zA E (qu E qy E) (zA E (qj E E E E) ?_)))))));refine zX E (qE 62 E (fun g62=>?_) (fun g62=>?_))
   ·simp only[↓cqA,cqB]at g62
    obtain ⟨u,hu⟩:=qM (l:=t.c) (k:=k) (by omega)
    have huf:=Pt.wf_mem hwC (List.mem_of_getElem? hu)
    have huw:=qeV d u huf
    have huw0:=qdo d u huf
    refine zZ E (ql (.inl E) E) (zZ E (qj E E E E) (zA E (qk E E E) (zK (qo E (fun c3=>?_) (fun c3=>?_)))))
    ·simp only[↓cqA,cqB]at c3
     refine qr (qa (qd (qv (qb (zX E (zA E (qe E qaD E) (zA E (qi E qB E E E E E) ?_)))))));refine zX E (zA E (qp E qy E E zO (qba hu)) (zA E (qD E qL E E) (zX E (zA E (qa3 E E E zO) (qH (avs:=[_,_]) true E E E zD qbS E E (ih zO (e-1) zO u huf) E E (zA E (qO E E E zO) ?_))))))
     refine zX E (qc (qR (qa (qb (zX E (zA E (qO E E E zO) (zX E ?_)))))));refine qc ?_
     have hb:=qeL (wgtP d) (wgtL (wgtP d) (wgtL (wgtP d) (1+wT t.t) t.l) t.r) (t.c.take k) u (fun j hj=>by
      by_cases hjk:j<k
      ·have:=hp.2 j hjk;rwa [List.take_take,Nat.min_eq_left (by omega)]
      ·rw [List.take_of_length_le (by simp;omega)];omega)
     rw [← qas hu] at hb
     refine qa ?_;refine ⟨?_,?_,?_⟩
     ·omega
     ·refine ⟨by omega,fun j hj=>?_⟩
      by_cases hjk:j<k
      ·exact hp.2 j hjk
      ·rw [show j=k by omega];omega
     exact zR hL (zC E (zC E (SubT.cons (qaw E (by exact qan hb.symm)) (zC E SubT.nil)))) (SubO.cons (qU E (by rfl)) SubO.nil)
    simp only[↓cqA,cqB]at c3
    have hfin:wgtL (wgtP d) (wgtL (wgtP d) (wgtL (wgtP d) (1+wT t.t) t.l) t.r) (t.c.take k)=wgtL (wgtP d) (wgtL (wgtP d) (wgtL (wgtP d) (1+wT t.t) t.l) t.r) t.c:=((qea (wgtP d) _ _ k hp.1 hp.2).trans (qeK _ _ _ (by omega))).symm
    refine qV (qq (qq (qad ?_)));refine qa (qd (qb (zX E (zX E (zK (qn (zI hL (qg E qh) ?_ ?_)))))))
    ·rfl
    exact ⟨qbx (by rw [hfin,wgtP]),rfl⟩
   simp only[↓cqA,cqB]at g62
   have hfin:wgtL (wgtP d) (wgtL (wgtP d) (wgtL (wgtP d) (1+wT t.t) t.l) t.r) (t.c.take k)=wgtL (wgtP d) (wgtL (wgtP d) (wgtL (wgtP d) (1+wT t.t) t.l) t.r) t.c:=by rw [List.take_of_length_le (by omega)]
   refine zY E (zY E (zA E (qk E E E) (zK (qaA E (qV (qq (qq (qad ?_))))))));refine qa (qd (qb (zX E (zX E (zK (qn (zI hL (qg E qh) ?_ ?_)))))))
   ·rfl
   exact ⟨qbx (by rw [hfin,wgtP]),rfl⟩
theorem qi0 (p:Pt)(h:p.wf):PF 76 [ptA false p,iv 30] (iv (wP p)):=qjN 30 (by omega) 30 rfl p h
theorem qjO (l:List Mt)(hl:qbt l)(hw:∀ m∈l,m.wf):PF 75 [.dat false 4 (mtDs l)] (iv (wMs l)):=by
 have hlen:=qah l
 have hF:∀ u,u∈l→0≤wM u∧wM u≤5000000000000000:=fun u hu=>qpD u (hw u hu)
 simp only [qbt] at hl
 refine qI Tryz.func75 E Tryz.ntmps75 zL fun c hL hQ hDD=>(qd (qb (zX E (zK (qd (qb ?_))))));refine zX E (zA E (qu E qw E) ?_)
 refine zX E (zK (qd (qd (qb (zX E (qc ?_))))));refine qa (qv (qac (l.length) (fun k=>k≤l.length∧∀ j,j<k→wgtL wM l.length (l.take j)<1048576) (fun k=>⟨[(0,.dat false 4 (mtDs l)),(3,iv (wgtL wM l.length (l.take k))),(4,iv (k:Int))],[]⟩) (⟨by omega,fun j hj=>absurd hj zO⟩) ?_ (fun k hk hp=>?_)))
 ·exact zR hL (zC E (SubT.cons (qaw E (by exact qan (by simp only [List.take_zero,wgtL];omega))) (zC E SubT.nil))) SubO.nil
 have hwk:=qfF wM 5000000000000000 (by omega) l.length (l.take k) (fun u hu=>(hF u (List.mem_of_mem_take hu)).2) (by omega)
 have hw0:=qbJ wM l.length (l.take k) (fun u hu=>(hF u (List.mem_of_mem_take hu)).1)
 refine qd (qd (qb (zX E (zX E (zA E (qu E qw E) (zA E (qj E E E E) (zX E ?_)))))));refine qE 11 E (fun g11=>?_) (fun g11=>?_)
 ·simp only[↓cqA,cqB]at g11
  obtain ⟨u,hu⟩:=qM (l:=l) (k:=k) (by omega)
  have hum:=List.mem_of_getElem? hu
  have huw:=hF u hum
  have hws:wM u=u.u.length+wBs u.b:=rfl
  have hut:=(hw u hum)
  have hul:=qbH u.u
  have hbr:=qnp u.b hut.1.1 hut.1.2
  refine zZ E (ql (.inl E) E) (zZ E (qj E E E E) (zA E (qk E E E) (zK (qo E (fun c0=>?_) (fun c0=>?_)))))
  ·simp only[↓cqA,cqB]at c0
   refine qr (qa (qd (qv (qX 14 mixed E E E E (zU E (ql (.inl E) E) (zU E (ql (.inl E) E) (zU E (ql (.inl E) E) ?_)))))));refine zU E (qp E qw E E zO (qbR hu)) (zU E (qJ E qaV E) (zU E (qW E qbZ E) (zU E (qu E qaW E) (zU E (qO E E E zO) (zU E (ql (.inl E) E) (zU E (ql (.inl E) E) (zU E (qp E qw E E zO (qbR hu)) (zU E (qJ E qaH E) ?_))))))))
   refine zU E (qW E qaK E) (zU E (qai (avs:=[_]) true E qfr E E (qlF u.b hut.1.1 hut.1.2) (fun _=>rfl) E) (qaq ⟨rfl,rfl,?_⟩));refine zA E (qO E E E zO) (zX E (qc (qR (qa (qb (zX E (zA E (qO E E E zO) (zX E (qc ?_)))))))))
   have hb:=qeL wM l.length (l.take k) u (fun j hj=>by
    by_cases hjk:j<k
    ·have:=hp.2 j hjk;rwa [List.take_take,Nat.min_eq_left (by omega)]
    ·rw [List.take_of_length_le (by simp;omega)];omega)
   rw [← qas hu] at hb
   refine qa ?_;refine ⟨?_,?_,?_⟩
   ·omega
   ·refine ⟨by omega,fun j hj=>?_⟩
    by_cases hjk:j<k
    ·exact hp.2 j hjk
    ·rw [show j=k by omega];omega
   exact zR hL (zC E (SubT.cons (qaw E (by exact qan (by rw [hb];try omega))) (zC E SubT.nil))) SubO.nil
  simp only[↓cqA,cqB]at c0
  have hfin:wgtL wM l.length (l.take k)=wgtL wM l.length l:=((qea wM _ _ k hp.1 hp.2).trans (qeK _ _ _ (by omega))).symm
  refine qV (qq (qq (qad ?_)));refine qa (qd (qb (zX E (zX E (zK (qn (zI hL (qg E qh) ?_ ?_)))))))
  ·rfl
  exact ⟨qbx hfin,rfl⟩
 simp only[↓cqA,cqB]at g11
 have hfin:wgtL wM l.length (l.take k)=wgtL wM l.length l:=by rw [List.take_of_length_le (by omega)]
 refine zY E (zY E (zA E (qk E E E) (zK (qaA E (qV (qq (qq (qad ?_))))))));refine qa (qd (qb (zX E (zX E (zK (qn (zI hL (qg E qh) ?_ ?_)))))))
 ·rfl
 exact ⟨qbx hfin,rfl⟩
theorem qrp (p:qhQ)(hp:p.wf):PF 31 [.agg (lift false (a13D p))] (bv (qjj p)):=by
 obtain ⟨L,l,N,M⟩:=p
 obtain ⟨⟨hlL,hwL⟩,⟨hl,hwX⟩,hN,hlM,hwM⟩:=hp
 have hlen:=qaQ l
 have hlen2:(ptDs (qhQ.mk L l N M).X).length=l.length:=hlen
 have hrL:=qno L hlL hwL
 have hrM:=qnn M hlM hwM
 have hF:∀ u,u∈l→0≤wP u∧wP u≤9800000000000000:=fun u hu=>by
  have:=qpC u (Pt.wf_mem hwX hu);omega
 simp only [qbt] at hl
 refine qI Tryz.func31 E Tryz.ntmps31 zL fun c hL hQ hDD=>(qd (qb (qt E E zD (q6 1 E E E) E (zX E (zK (qd ?_))))));refine qX 10 mixed E E E E (zU E (qe E qaI E) (zU E (qi E qbq E E E E E) (zU E (qai (avs:=[_]) true E qfq E E (qlA L hlL hwL) (fun _=>rfl) E) (zU E (qe E qgR E) (zU E (qi E qfG E E E E E) (zU E (qai (avs:=[_]) true E qeY E E (qjO M hlM hwM) (fun _=>rfl) E) (zU E (qO E E E zO) ?_)))))))
 refine zU E (qe E q8 E) (zU E (qi E qB E E E E E) (zU E (qu E qy E) ?_))
 refine qaq ⟨rfl,rfl,?_⟩;refine zA E (qO E E E zO) (zX E (zK (qd (qd (qb (zX E ?_))))));refine zK (qv (qac (l.length) (fun k=>k≤l.length∧∀ j,j<k→wgtL wP (wKs L+wMs M+l.length) (l.take j)<1048576) (fun k=>⟨[(1,.ptr 1 0),(3,iv (wgtL wP (wKs L+wMs M+l.length) (l.take k))),(4,iv (k:Int))],[(1,.box (lift false (a13D ⟨L,l,N,M⟩)))]⟩) (⟨by omega,fun j hj=>absurd hj zO⟩) ?_ (fun k hk hp=>?_)))
 ·exact zR hL (zC E (SubT.cons (qaw E (by exact qan (by simp only [List.take_zero,wgtL];omega))) (zC E SubT.nil))) (SubO.cons (qU E (by rfl)) SubO.nil)
 have hwk:=qfF wP 9800000000000000 (by omega) (wKs L+wMs M+l.length) (l.take k) (fun u hu=>(hF u (List.mem_of_mem_take hu)).2) (by omega)
 have hw0:=qbJ wP (wKs L+wMs M+l.length) (l.take k) (fun u hu=>(hF u (List.mem_of_mem_take hu)).1)
 refine qd (qd (qb (zX E (zA E (qe E q8 E) (zA E (qi E qB E E E E E) (zA E (qu E qy E) (zA E (qj E E E E) ?_)))))));refine zX E (qE 21 E (fun g21=>?_) (fun g21=>?_))
 ·simp only[↓cqA,cqB]at g21
  obtain ⟨u,hu⟩:=qM (l:=l) (k:=k) (by omega)
  have hum:=List.mem_of_getElem? hu
  have huw:=hF u hum
  have hul:=(Pt.wf_mem hwX hum)
  refine zZ E (ql (.inl E) E) (zZ E (qj E E E E) (zA E (qk E E E) (zK (qo E (fun c0=>?_) (fun c0=>?_)))))
  ·simp only[↓cqA,cqB]at c0
   refine qr (qa (qd (qv (qb (zX E (zA E (qe E q8 E) (zA E (qi E qB E E E E E) ?_)))))));refine zX E (zA E (qp E qy E E zO (qba hu)) (zA E (qD E qL E E) (qH (avs:=[_,_]) true E E E zD qbS E E (qi0 u hul) E E (zA E (qO E E E zO) (zX E (qc (qR (qa (qb (zX E (zA E (qO E E E zO) (zX E (qc ?_)))))))))))))
   have hb:=qeL wP (wKs L+wMs M+l.length) (l.take k) u (fun j hj=>by
    by_cases hjk:j<k
    ·have:=hp.2 j hjk;rwa [List.take_take,Nat.min_eq_left (by omega)]
    ·rw [List.take_of_length_le (by simp;omega)];omega)
   rw [← qas hu] at hb
   refine qa ?_;refine ⟨?_,?_,?_⟩
   ·omega
   ·refine ⟨by omega,fun j hj=>?_⟩
    by_cases hjk:j<k
    ·exact hp.2 j hjk
    ·rw [show j=k by omega];omega
   exact zR hL (zC E (SubT.cons (qaw E (by exact qan (by rw [hb];try omega))) (zC E SubT.nil))) (SubO.cons (qU E (by rfl)) SubO.nil)
  simp only[↓cqA,cqB]at c0
  have hfin:wgtL wP (wKs L+wMs M+l.length) (l.take k)=wgtL wP (wKs L+wMs M+l.length) l:=((qea wP _ _ k hp.1 hp.2).trans (qeK _ _ _ (by omega))).symm
  refine qV (qq (qq (qad ?_)));refine qa (qd (qb (zX E (zA E (qj E E E E) (zX E (zK ?_))))));refine qn (zI hL (qg E qh) ?_ ?_)
  ·rfl
  refine ⟨q7 ?_,rfl⟩
  rw [hfin]
  simp only [qjj]
  try rfl
 simp only[↓cqA,cqB]at g21
 have hfin:wgtL wP (wKs L+wMs M+l.length) (l.take k)=wgtL wP (wKs L+wMs M+l.length) l:=by rw [List.take_of_length_le (by omega)]
 refine zY E (zY E (zA E (qk E E E) (zK (qaA E (qV (qq (qq (qad ?_))))))));refine qa (qd (qb (zX E (zA E (qj E E E E) (zX E (zK (qn (zI hL (qg E qh) ?_ ?_))))))))
 ·rfl
 refine ⟨q7 ?_,rfl⟩
 rw [hfin]
 simp only [qjj]
 try rfl
theorem qpc (p:α→Bool){l:List α}{k:Nat}{u:α}(hu:l[k]?=some u):(l.take (k+1)).filter p=(l.take k).filter p++(if p u=true then [u] else []):=by
 rw [qas hu,List.filter_append]
 congr 1
 by_cases h:p u=true<;>simp [h]
theorem qq9 (p:α→Bool)(l:List α)(k:Nat):((l.take k).filter p).length≤l.length:=Nat.le_trans (List.length_filter_le _ _) (by simp;omega)
end Go.Proofs.YtpgceiijoedppaaGreat