/- Part 43 of the proof: Oc. -/
import Derived.Test.YtpgceiijoedppaaGreatC42
set_option linter.unusedVariables false
set_option linter.unusedSimpArgs false
set_option maxRecDepth 8000
namespace Go.Proofs.YtpgceiijoedppaaGreat
open Go
theorem qhB (a b:List Mt):mtDs (a++b)=mtDs a++mtDs b:=by simp [mtDs]
theorem qnQ (t:Tm)(ht:mayT t=true)(hw:t.wf)(l:List Kp)(hl:qhK l)(hkw:∀ k∈l,k.wf):AC Tryz.prog 257 [.dat false 7 (kpDs l),tmA false t] [] (fun r O=>r=.row 6∧O=[(6,.rowd 55 4 false (mtDs (qcb (l.filterMap (qcj t)))))]):=by
 have hlen:=qc3 l
 obtain ⟨hl3,hlm⟩:=id hl
 have hter:=qnu ht hw hl hkw
 have hfl:=List.length_filterMap_le (qcj t) l
 refine qI Tryz.func257 E Tryz.ntmps257 zL fun c hL hQ hDD=>(qd (qb (qt E E zD (q6 3 E E E) E (zX E (zK (qd ?_))))));refine qd (qb (zX E (zA E (qu E qaf E) (zX E (zK (qv (qac (l.length) (fun k=>k≤l.length) (fun k=>⟨[(3,.ptr 3 0),(4,.row 0),(9,.dat false 7 (kpDs l)),(10,iv (kpDs l).length),(11,iv (k:Int))],[(0,.rowd 55 4 false (mtDs ((l.take k).filterMap (qcj t)))),(3,.box (lift false (tmD t)))]⟩) zO ?_ (fun k hk hp=>?_))))))))
 ·exact Sub.trans (qam (t:=4) (l:=0) 55 4 false E E) (qC (zC E (zC E (zC E (zC E (zC E SubT.nil))))) (SubO.cons (qU E (by rfl)) (SubO.cons (qU E (by rfl)) SubO.nil)) E E (noL' (noL hL) _))
 have hl2:(mtDs ((l.take k).filterMap (qcj t))).length≤l.length:=by
  rw [qah]
  have:=List.length_filterMap_le (qcj t) (l.take k)
  rw [List.length_take] at this;omega
 refine qd (qb (zA E (qj E E E E) (zK (qd (qo E (fun c0=>?_) (fun c0=>?_))))))
 ·simp only[↓cqA,cqB]at c0
  obtain ⟨u,hu⟩:=qM (l:=l) (k:=k) (by omega)
  have hum:=List.mem_of_getElem? hu
  have hub:=hlm u hum
  simp only [qer,Bool.and_eq_true,decide_eq_true_eq] at hub
  obtain ⟨⟨⟨_,hu1⟩,hu2⟩,_⟩:=hub
  have hft:=qeH (qcj t) hu
  refine qr (qa (qd (qv (qd (qb (zA E (qp E qaf E E zO (qby hu)) (zA E (qD E qb5 E E) ?_)))))));refine qt E E zD (qat 6 E qdw E) E (qT E E E qb5 E E E E E E E E E (zK (qd (qb (zA E (qF E qz E E E E) (zA E (qF E qb5 E E E E) (qH (avs:=[_,_]) false E E E zD qoc E E (qo0 t (qbN ht) (qdd ht) hw u (hkw u hum) hu1) E E (zX E (zA E (qS E E E) (zA E (qS E E E) ?_))))))))))
  refine qt E E zD (qat 7 E qao E) E (qT E E E qK E E E E E E E E E (zX E (zK (qd (qb (zX E ?_))))));refine zK (qo E (fun c1=>?_) (fun c1=>?_))
  ·simp only[↓cqA,cqB]at c1
   have hte:qcj t u=some (tryM t u):=by rw [qcj,if_pos (by simpa using c1)];rfl
   rw [hte] at hft
   refine qb (zX E (zA E (qF E qK E E E E) (qt E E zD (qaj 24 E qw qao E E zD zD zD E E E) E (qbW E E zD (qaU 25 qbL E E E E E E E E (noL hL _) zO E) E ?_))))
   refine qab (qZ 25 0 (noL hL _) (noL hL _)) (zX E (qc (qR (qa (qb (zA E (qO E E E zO) (zX E ?_)))))));refine zK ?_;refine ⟨?_,?_,?_⟩
   ·omega
   ·omega
   exact zR hL (zC E (zC E (zC E (zC E (zC E SubT.nil))))) (SubO.cons (qU E (by first|(rw [hft,qhB];rfl)|(rw [hft,Option.toList_none,List.append_nil];done))) (SubO.cons (qU E (by rfl)) SubO.nil))
  simp only[↓cqA,cqB]at c1
  have hte:qcj t u=none:=by rw [qcj,if_neg (by simpa using c1)]
  rw [hte] at hft
  refine qr (qR (qa (qb (zA E (qO E E E zO) (zX E (zK ?_))))));refine ⟨?_,?_,?_⟩
  ·omega
  ·omega
  exact zR hL (zC E (zC E (zC E (zC E (zC E SubT.nil))))) (SubO.cons (qU E (by first|(rw [hft,qhB];rfl)|(rw [hft,Option.toList_none,List.append_nil];done))) (SubO.cons (qU E (by rfl)) SubO.nil))
 simp only[↓cqA,cqB]at c0
 have hall:l.take k=l:=List.take_of_length_le (by omega)
 rw [hall]
 refine qV (qq (qq (qad ?_)));refine qa (qd (qb (zX E (qeo ⟨[(28,.row 0),(3,.ptr 3 0)],(0,.rowd 55 4 false (mtDs (qcb (l.filterMap (qcj t)))))::[(3,.box (lift false (tmD t)))]⟩ (fun Q2 K=>?_) ?_))))
 ·have hqO:=fun cap h1 h2=>qhq (l.filterMap (qcj t)) (by omega) cap h1 h2 (n:=1) (by decide) hter
  generalize hLL:(l.filterMap (qcj t))=LL at*
  refine qab (qC (T1:=[(27,.row 0),(3,.ptr 3 0)]) (O1:=(0,.rowd 55 4 false (mtDs LL))::[(3,.box (lift false (tmD t)))]) (zB E (zB E SubT.nil)) (SubO.cons E (SubO.cons E SubO.nil)) E E (noL' (noL hL) _)) ?_
  have h9:=qah LL
  refine qdG (l:=0) E zD (noL hL _) (fun he=>?_) (fun cap h1 h2=>?_)
  ·have hl0:LL=[]:=by
    rw [he] at h9;exact List.eq_nil_of_length_eq_zero h9.symm
   have hn0:qcb LL=[]:=by rw [hl0];rfl
   rw [hn0] at K
   refine qag (avs:=[_]) false E E E zD qcx E E qgi E (qbQ .nil) (by rintro r O' ⟨_,rfl⟩;exact frB E) (by rintro h;cases h) ?_
   rintro r O' ⟨rfl,rfl⟩
   exact qab (Sub.trans (qam (t:=28) (l:=9) 55 4 false E E) (Sub.trans (qC (T1:=[(28,.row 9),(3,.ptr 3 0)]) (O1:=(9,.rowd 55 4 false [])::[(3,.box (lift false (tmD t)))]) (zB E (zB E SubT.nil)) (SubO.cons E (SubO.cons E SubO.nil)) E E (noL' (noL hL) _)) (Sub.trans (qZ 9 0 (noL hL _) (noL hL _)) (qC (zB E (zB E SubT.nil)) (SubO.cons E (SubO.cons E SubO.nil)) E E (noL' (noL hL) _))))) K
  ·rw [h9] at h1 ⊢
   refine qag (avs:=[_]) false E E E zD qcx E E (hqO cap h1 h2) E (qbQ (.cons E trivial E .nil)) (by rintro r O' ⟨A',_,_,_,rfl⟩;exact frB E) (by rintro h;cases h) ?_
   rintro r O' ⟨A',hA1,hA2,rfl,rfl⟩
   have hgl:=qah (qcb LL)
   exact qab (Sub.trans (qbm (l:=0) (cap:=cap) (n:=(qcb LL).length) (mtDs (qcb LL)) E (noL hL _) ⟨_,qgh hA2⟩ hgl.symm hA1.symm) (qC (SubT.cons (qaw E (by simp [AV.rp,clV])) (zB rfl SubT.nil)) (SubO.cons rfl (SubO.cons rfl SubO.nil)) rfl rfl (noL' (noL hL) _))) K
 refine zX E (zK (qn ?_))
 change retQ _ _ _ _ _ _ _
 refine retS (qZ 0 6 (noL hL _) (noL hL _)) (retO (O':=[(6,_)]) (by first|exact .inl E|exact .inr E) (qg E qh) (SubO.cons E SubO.nil) ?_ ?_ (noL' (noL hL) _) ?_)
 ·rfl
 ·rfl
 exact ⟨rfl,rfl⟩
theorem qqG (kind rel:Int){n k q:Nat}(hn:n≤300000)(hk:k≤300000)(A B:List Mt)(hA:∀ a∈A,MOk n a)(hB:∀ b∈B,MOk k b)(hAl:A.length≤1000)(hBl:B.length≤1000)(cl:List Mt)(hc:∀ x∈cl,MOk q x)(hcl:cl.length≤1000000)(hr:kind=6→1≤rel∧rel≤13):AC Tryz.prog 207 [iv kind,iv rel,.dat false 4 (mtDs A),.dat false 4 (mtDs B),.dat false 4 (mtDs cl)] [] (fun r O=>∃ X,((capM (qcb (qdj kind rel cl A B))).2=true→X=(capM (qcb (qdj kind rel cl A B))).1)∧r=.tup [.row 6,bv (capM (qcb (qdj kind rel cl A B))).2]∧O=[(6,.rowd 55 4 false (mtDs X))]):=by
 have hlA:=qah A
 have hlB:=qah B
 have hflat:∀ i,∀ m∈qdj kind rel cl (A.take i) B,MOk (n+k) m:=fun i=>qiP (fun y hy=>hA y (List.mem_of_mem_take hy)) hB
 have hflA:∀ m∈qdj kind rel cl A B,MOk (n+k) m:=qiP hA hB
 refine qI Tryz.func207 E Tryz.ntmps207 zL fun c hL hQ hDD=>(qd (qb (zX E (zX E (zK (qd ?_))))));refine qb (zX E (zK (qd (qd (qb (zX E (zA E (qu E qw E) (zX E (zK (qv (qci (α:=List Mt) (A.length) (fun i xs=>i≤A.length∧xs.length≤4000∧∀ m,m∈xs↔m∈qdj kind rel cl (A.take i) B) (fun i xs=>⟨[(0,iv kind),(1,iv rel),(3,.dat false 4 (mtDs B)),(4,.dat false 4 (mtDs cl)),(12,.row 0),(19,.dat false 4 (mtDs A)),(20,iv (mtDs A).length),(21,iv (i:Int))],[(0,.rowd 55 4 false (mtDs xs))]⟩) ([]) (⟨by omega,by simp,fun m=>by simp [qdj]⟩) ?_ (fun i xs hi hpi=>?_))))))))))))
 ·exact Sub.trans (qam (t:=12) (l:=0) 55 4 false E E) (qC (zC E (zC E (zC E (zC E (zC E (zC E (zC E (zC E SubT.nil)))))))) (SubO.cons (qU E (by rfl)) SubO.nil) E E (noL' (noL hL) _))
 refine qd (qb (zA E (qj E E E E) (zK (qd (qo E (fun c0=>?_) (fun c0=>?_))))))
 ·simp only[↓cqA,cqB]at c0
  obtain ⟨a,ha⟩:=qM (l:=A) (k:=i) (by omega)
  have hao:=hA a (List.mem_of_getElem? ha)
  have hft:=ql4 kind rel cl (B:=B) ha
  have hpx:=hpi.2.2
  refine qr (qa (qd (qv (qd (qb (zA E (qp E qw E E zO (qbR ha)) (zA E (qD E qK E E) ?_)))))))
  refine qt E E zD (qat 14 E qao E) E (qT E E E qK E E E E E E E E E (zK (qd (qd (qb (zX E ?_))))));refine zA E (qu E qw E) (zX E (zK (qv (qac (B.length) (fun j=>j≤B.length) (fun j=>⟨[(0,iv kind),(1,iv rel),(3,.dat false 4 (mtDs B)),(4,.dat false 4 (mtDs cl)),(12,.row 0),(14,.ptr 14 0),(19,.dat false 4 (mtDs A)),(20,iv (mtDs A).length),(21,iv (i:Int)),(25,.dat false 4 (mtDs B)),(26,iv (mtDs B).length),(27,iv (j:Int))],[(0,.rowd 55 4 false (mtDs (xs++(B.take j).filterMap (qb0 kind rel cl a)))),(14,.box (lift false (mtD a)))]⟩) zO ?_ (fun j hj hpj=>?_)))))
  ·exact zR hL (zC E (zC E (zC E (zC E (zC E (zC E (zC E (zC E (zC E (zC E (zC E (zC E SubT.nil)))))))))))) (SubO.cons (qU E (by rw [List.take_zero,List.filterMap_nil,List.append_nil])) (SubO.cons (qU rfl (by rfl)) SubO.nil))
  have hl2:(mtDs (xs++(B.take j).filterMap (qb0 kind rel cl a))).length≤5000:=by
   rw [qah,List.length_append]
   have:=List.length_filterMap_le (qb0 kind rel cl a) (B.take j)
   rw [List.length_take] at this;omega
  refine qd (qb (zA E (qj E E E E) (zK (qd (qo E (fun c1=>?_) (fun c1=>?_))))))
  ·simp only[↓cqA,cqB]at c1
   obtain ⟨b,hbb⟩:=qM (l:=B) (k:=j) (by omega)
   have hbo:=hB b (List.mem_of_getElem? hbb)
   have hft2:=qeH (qb0 kind rel cl a) hbb
   refine qr (qa (qd (qv (qd (qb (zA E (qp E qw E E zO (qbR hbb)) (zA E (qD E qK E E) ?_)))))))
   refine qt E E zD (qat 16 E qao E) E (qT E E E qK E E E E E E E E E (zK (qd (qb (zX E (zX E ?_))))));refine zA E (qF E qK E E E E) (zA E (qF E qK E E E E) (zX E (qH (avs:=[_,_,_,_,_]) false E E E zD qod E E (Pair_ok kind rel (n:=n) (k:=k) zO zO a b hao hbo cl hc hcl hr) E E (zX E (zA E (qS E E E) ?_)))))
   refine zA E (qS E E E) (qt E E zD (qat 17 E qao E) E (qT E E E qK E E E E E E E E E (zX E (zK (qd (qb ?_))))));refine zX E (zK (qo E (fun c2=>?_) (fun c2=>?_)))
   ·obtain ⟨m,hj⟩:=Option.isSome_iff_exists.1 c2
    rw [hj] at hft2
    rw [hj]
    refine qb (zX E (zA E (qF E qK E E E E) (qt E E zD (qaj 43 E qw qao E E zD zD zD E E E) E (qbW E E zD (qaU 44 qbL E E E E E E E E (noL hL _) zO E) E ?_))))
    refine qab (qZ 44 0 (noL hL _) (noL hL _)) (zX E (qc (qR (qa (qb (zA E (qO E E E zO) (zX E ?_)))))));refine zK ?_;refine ⟨?_,?_,?_⟩
    ·omega
    ·omega
    exact zR hL (zC E (zC E (zC E (zC E (zC E (zC E (zC E (zC E (zC E (zC E (zC E (zC E SubT.nil)))))))))))) (SubO.cons (qU E (by first|(rw [hft2,← List.append_assoc,qhB (xs++_)];rfl)|(rw [hft2,Option.toList_none,List.append_nil];done))) (SubO.cons (qU E (by rfl)) SubO.nil))
   have hj:qb0 kind rel cl a b=none:=by
    cases h:qb0 kind rel cl a b with
    | none=>rfl
    | some m=>rw [h] at c2;cases c2
   rw [hj] at hft2
   refine qr (qR (qa (qb (zA E (qO E E E zO) (zX E (zK ?_))))));refine ⟨?_,?_,?_⟩
   ·omega
   ·omega
   exact zR hL (zC E (zC E (zC E (zC E (zC E (zC E (zC E (zC E (zC E (zC E (zC E (zC E SubT.nil)))))))))))) (SubO.cons (qU E (by first|(rw [hft2,← List.append_assoc,qhB (xs++_)];rfl)|(rw [hft2,Option.toList_none,List.append_nil];done))) (SubO.cons (qU E (by rfl)) SubO.nil))
  simp only[↓cqA,cqB]at c1
  have hall:B.take j=B:=List.take_of_length_le (by omega)
  rw [hall]
  have hlx:=qah (xs++B.filterMap (qb0 kind rel cl a))
  have hlf:=List.length_filterMap_le (qb0 kind rel cl a) B
  have hmem:∀ m,m∈xs++B.filterMap (qb0 kind rel cl a)↔m∈qdj kind rel cl (A.take (i+1)) B:=fun m=>by rw [hft,List.mem_append,List.mem_append,hpx]
  have hok:∀ m∈xs++B.filterMap (qb0 kind rel cl a),MOk (n+k) m:=fun m hm=>hflat _ m ((hmem m).1 hm)
  have hlo:=qnN (fun m hm=>(hok m hm).may)
  have hyl:(xs++B.filterMap (qb0 kind rel cl a)).length=xs.length+(B.filterMap (qb0 kind rel cl a)).length:=List.length_append
  generalize hxs:xs++B.filterMap (qb0 kind rel cl a)=ys at*
  have hoy:=qah (qcb ys)
  refine qV (qq (qq (qad ?_)));refine qa (qd (qb (zX E (zA E (qbf E qw E E) (zA E (qj E E E E) (zK ?_))))));refine qo E (fun c3=>?_) (fun c3=>?_)
  ·simp only[↓cqA,cqB]at c3
   refine qd (qb (zX E (qeo ⟨[(50,.row 0),(0,iv kind),(1,iv rel),(3,.dat false 4 (mtDs B)),(4,.dat false 4 (mtDs cl)),(19,.dat false 4 (mtDs A)),(20,iv (mtDs A).length),(21,iv (i:Int))],(0,.rowd 55 4 false (mtDs (qcb (ys))))::[]⟩ (fun Q2 K=>?_) ?_)))
   ·have hqO:=fun cap h1 h2=>qhq (ys) (by omega) cap h1 h2 (n:=n+k) (by omega) hok
    generalize hLL:(ys)=LL at*
    refine qab (qC (T1:=[(49,.row 0),(0,iv kind),(1,iv rel),(3,.dat false 4 (mtDs B)),(4,.dat false 4 (mtDs cl)),(19,.dat false 4 (mtDs A)),(20,iv (mtDs A).length),(21,iv (i:Int))]) (O1:=(0,.rowd 55 4 false (mtDs LL))::[]) (zB E (zB E (zB E (zB E (zB E (zB E (zB E (zB E SubT.nil)))))))) (SubO.cons E SubO.nil) E E (noL' (noL hL) _)) ?_
    have h9:=qah LL
    refine qdG (l:=0) E zD (noL hL _) (fun he=>?_) (fun cap h1 h2=>?_)
    ·have hl0:LL=[]:=by
      rw [he] at h9;exact List.eq_nil_of_length_eq_zero h9.symm
     have hn0:qcb LL=[]:=by rw [hl0];rfl
     rw [hn0] at K
     refine qag (avs:=[_]) false E E E zD qcx E E qgi E (qbQ .nil) (by rintro r O' ⟨_,rfl⟩;exact frB E) (by rintro h;cases h) ?_
     rintro r O' ⟨rfl,rfl⟩
     exact qab (Sub.trans (qam (t:=50) (l:=9) 55 4 false E E) (Sub.trans (qC (T1:=[(50,.row 9),(0,iv kind),(1,iv rel),(3,.dat false 4 (mtDs B)),(4,.dat false 4 (mtDs cl)),(19,.dat false 4 (mtDs A)),(20,iv (mtDs A).length),(21,iv (i:Int))]) (O1:=(9,.rowd 55 4 false [])::[]) (zB E (zB E (zB E (zB E (zB E (zB E (zB E (zB E SubT.nil)))))))) (SubO.cons E SubO.nil) E E (noL' (noL hL) _)) (Sub.trans (qZ 9 0 (noL hL _) (noL hL _)) (qC (zB E (zB E (zB E (zB E (zB E (zB E (zB E (zB E SubT.nil)))))))) (SubO.cons E SubO.nil) E E (noL' (noL hL) _))))) K
    ·rw [h9] at h1 ⊢
     refine qag (avs:=[_]) false E E E zD qcx E E (hqO cap h1 h2) E (qbQ (.cons E trivial E .nil)) (by rintro r O' ⟨A',_,_,_,rfl⟩;exact frB E) (by rintro h;cases h) ?_
     rintro r O' ⟨A',hA1,hA2,rfl,rfl⟩
     have hgl:=qah (qcb LL)
     exact qab (Sub.trans (qbm (l:=0) (cap:=cap) (n:=(qcb LL).length) (mtDs (qcb LL)) E (noL hL _) ⟨_,qgh hA2⟩ hgl.symm hA1.symm) (qC (SubT.cons (qaw E (by simp [AV.rp,clV])) (zB rfl (zB rfl (zB rfl (zB rfl (zB rfl (zB rfl (zB rfl SubT.nil)))))))) (SubO.cons rfl SubO.nil) rfl rfl (noL' (noL hL) _))) K
   refine zX E (zK (qd (qb (zX E (zA E (qbf E qw E E) (zA E (qj E E E E) ?_))))));refine zK (qo E (fun c4=>?_) (fun c4=>?_))
   ·simp only[↓cqA,cqB]at c4
    have hmuch:(capM (qcb (qdj kind rel cl A B))).2=false:=by
     have h1:=qr0 (l:=ys) (m:=qdj kind rel cl A B) (fun m hm=>(hflA m hm).may) (fun m hm=>by
      obtain ⟨z,hz,hzm⟩:=List.mem_flatMap.1 ((hmem m).1 hm)
      exact List.mem_flatMap.2 ⟨z,List.mem_of_mem_take hz,hzm⟩)
     rw [qqv]
     exact decide_eq_false zO
    refine qd (qb (zX E (zX E (zK (qn (qP (qm (qm (qP (qm ?_))))))))))
    change retQ _ _ _ _ _ _ _
    refine retS (qam (t:=10) (l:=6) 55 4 false E E) (retO (O':=[(6,_)]) (by first|exact .inl E|exact .inr E) (qg E (qg E qh)) (SubO.cons E SubO.nil) ?_ ?_ (noL' (noL hL) _) ?_)
    ·rfl
    ·rfl
    exact ⟨[],fun h=>(by rw [hmuch] at h;cases h),(by rw [hmuch];rfl),rfl⟩
   simp only[↓cqA,cqB]at c4
   refine qr (qR (qa (qb (zA E (qO E E E zO) (zX E (zK ?_))))));refine ⟨?_,(if ys.length≤4000 then ys else qcb ys),?_,?_⟩
   ·omega
   ·refine ⟨by omega,?_,fun m=>?_⟩
    ·split<;>omega
    ·split
     ·exact hmem m
     ·rw [(qcO fun m hm=>(hok m hm).may).2];exact hmem m
   exact zR hL (zC E (zC E (zC E (zC E (zC E (zC E (zC E (zC E SubT.nil)))))))) (SubO.cons (qU E (by first|(rw [if_pos zO];done)|(rw [if_neg zO];done))) SubO.nil)
  simp only[↓cqA,cqB]at c3
  refine qr (qR (qa (qb (zA E (qO E E E zO) (zX E (zK ?_))))));refine ⟨?_,(if ys.length≤4000 then ys else qcb ys),?_,?_⟩
  ·omega
  ·refine ⟨by omega,?_,fun m=>?_⟩
   ·split<;>omega
   ·split
    ·exact hmem m
    ·rw [(qcO fun m hm=>(hok m hm).may).2];exact hmem m
  exact zR hL (zC E (zC E (zC E (zC E (zC E (zC E (zC E (zC E SubT.nil)))))))) (SubO.cons (qU E (by first|(rw [if_pos zO];done)|(rw [if_neg zO];done))) SubO.nil)
 simp only[↓cqA,cqB]at c0
 have hall:A.take i=A:=List.take_of_length_le (by omega)
 have hmem:=hpi.2.2
 rw [hall] at hmem
 have hok:∀ m∈xs,MOk (n+k) m:=fun m hm=>hflA m ((hmem m).1 hm)
 have hset:=qr1 (fun m hm=>(hok m hm).may) hmem
 have hlx:=qah (qcb xs)
 refine qV (qq (qq (qad ?_)));refine qa (qd (qb (zX E (qeo ⟨[(56,.row 0),(0,iv kind)],(0,.rowd 55 4 false (mtDs (qcb (xs))))::[]⟩ (fun Q2 K=>?_) ?_))))
 ·have hqO:=fun cap h1 h2=>qhq (xs) (by omega) cap h1 h2 (n:=n+k) (by omega) hok
  generalize hLL:(xs)=LL at*
  refine qab (qC (T1:=[(55,.row 0),(0,iv kind)]) (O1:=(0,.rowd 55 4 false (mtDs LL))::[]) (zB E (zB E SubT.nil)) (SubO.cons E SubO.nil) E E (noL' (noL hL) _)) ?_
  have h9:=qah LL
  refine qdG (l:=0) E zD (noL hL _) (fun he=>?_) (fun cap h1 h2=>?_)
  ·have hl0:LL=[]:=by
    rw [he] at h9;exact List.eq_nil_of_length_eq_zero h9.symm
   have hn0:qcb LL=[]:=by rw [hl0];rfl
   rw [hn0] at K
   refine qag (avs:=[_]) false E E E zD qcx E E qgi E (qbQ .nil) (by rintro r O' ⟨_,rfl⟩;exact frB E) (by rintro h;cases h) ?_
   rintro r O' ⟨rfl,rfl⟩
   exact qab (Sub.trans (qam (t:=56) (l:=9) 55 4 false E E) (Sub.trans (qC (T1:=[(56,.row 9),(0,iv kind)]) (O1:=(9,.rowd 55 4 false [])::[]) (zB E (zB E SubT.nil)) (SubO.cons E SubO.nil) E E (noL' (noL hL) _)) (Sub.trans (qZ 9 0 (noL hL _) (noL hL _)) (qC (zB E (zB E SubT.nil)) (SubO.cons E SubO.nil) E E (noL' (noL hL) _))))) K
  ·rw [h9] at h1 ⊢
   refine qag (avs:=[_]) false E E E zD qcx E E (hqO cap h1 h2) E (qbQ (.cons E trivial E .nil)) (by rintro r O' ⟨A',_,_,_,rfl⟩;exact frB E) (by rintro h;cases h) ?_
   rintro r O' ⟨A',hA1,hA2,rfl,rfl⟩
   have hgl:=qah (qcb LL)
   exact qab (Sub.trans (qbm (l:=0) (cap:=cap) (n:=(qcb LL).length) (mtDs (qcb LL)) E (noL hL _) ⟨_,qgh hA2⟩ hgl.symm hA1.symm) (qC (SubT.cons (qaw E (by simp [AV.rp,clV])) (zB rfl SubT.nil)) (SubO.cons rfl SubO.nil) rfl rfl (noL' (noL hL) _))) K
 refine zX E (zK (qd (qb (zX E (zX E (zA E (qbf E qw E E) (zA E (qj E E E E) (zX E (zX E (zK (qn ?_)))))))))))
 change retQ _ _ _ _ _ _ _
 first
  | (refine retS (qZ 0 6 (noL hL _) (noL hL _)) (retO (O':=[(6,_)]) (by first|exact .inl E|exact .inr E) (qg E (qg E qh)) (SubO.cons E SubO.nil) ?_ ?_ (noL' (noL hL) _) ?_)
     ·rfl
     ·rfl
     refine ⟨qcb xs,fun h=>by rw [capM_fst h,hset],?_,rfl⟩
     rw [qqv,← hset]
     show AV.tup [.row 6,_]=_
     congr 2
     refine congrArg (fun x=>[x]) (qbs ?_)
     rw [hlx,Bool.eq_iff_iff,decide_eq_true_eq,decide_eq_true_eq]
     omega)
end Go.Proofs.YtpgceiijoedppaaGreat