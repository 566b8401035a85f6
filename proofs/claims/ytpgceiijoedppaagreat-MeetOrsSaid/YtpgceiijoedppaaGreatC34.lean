/- Part 34 of the proof: Nc. -/
import Derived.Test.YtpgceiijoedppaaGreatC29
set_option linter.unusedVariables false
set_option linter.unusedSimpArgs false
set_option maxRecDepth 8000
namespace Go.Proofs.YtpgceiijoedppaaGreat
open Go
theorem qjE (x y:List Int)(lx:x.length≤140737488351232)(ly:y.length≤140737488351232):PF 70 [.dat false 1 (inDs x),.dat false 1 (inDs y)] (bv (decide (x=y))):=by
 have hlx:=qbH x
 have hly:=qbH y
 refine qI Tryz.func70 E Tryz.ntmps70 zL fun c hL hQ hDD=>(qd (qb (zX E (zK (qd (qd ?_))))));refine qb (zX E (zA E (qu E qaW E) (zX E (zA E (qu E qaW E) (zA E (qj E E E E) (zK (qo E (fun c0=>?_) (fun c0=>?_))))))))
 ·simp only[↓cqA,cqB]at c0
  refine qd (qb (zX E (zK (qn (qm (zI hL (qg E qh) ?_ ?_))))))
  ·rfl
  exact ⟨q7 (by symm;rw [decide_eq_false_iff_not];intro h;rw [h] at c0;omega),rfl⟩
 simp only[↓cqA,cqB]at c0
 refine qr (qa (qd (qd (qb (zX E (zK ?_))))));refine qv (qac (x.length) (fun k=>k≤x.length∧x.take k=y.take k) (fun k=>⟨[(0,.dat false 1 (inDs x)),(1,.dat false 1 (inDs y)),(5,iv (k:Int))],[]⟩) (⟨by omega,by simp⟩) ?_ (fun k hk hp=>?_))
 ·exact zR hL (zC E (zC E (zC E SubT.nil))) SubO.nil
 refine qd (qd (qb (zX E (zX E (zA E (qu E qaW E) (zA E (qj E E E E) (qc ?_)))))));refine qa (qo E (fun c1=>?_) (fun c1=>?_))
 ·simp only[↓cqA,cqB]at c1
  obtain ⟨u,hu⟩:=qM (l:=x) (k:=k) (by omega)
  obtain ⟨v,hv⟩:=qM (l:=y) (k:=k) (by omega)
  refine qr (qa (qd (qv (qd (qX 8 mixed E E E E (zU E (ql (.inl E) E) (zU E (ql (.inl E) E) ?_)))))));refine zU E (qp E qaW E E zO (qfa hu)) (zU E (qW E qQ E) ?_)
  refine zU E (ql (.inl E) E) (zU E (ql (.inl E) E) (zU E (qp E qaW E E zO (qfa hv)) (zU E (qW E qQ E) (qaq ⟨rfl,rfl,?_⟩))));refine zA E (qj E E E E) (zK (qo E (fun c2=>?_) (fun c2=>?_)))
  ·simp only[↓cqA,cqB]at c2
   refine qd (qb (zX E (zK (qn (qP (qm (qm (qP (qm (zI hL (qg E qh) ?_ ?_))))))))))
   ·rfl
   exact ⟨q7 (by symm;rw [decide_eq_false_iff_not];intro h;rw [h,hv] at hu;cases hu;exact c2 E),rfl⟩
  simp only[↓cqA,cqB]at c2
  refine qr (qR (qa (qb (zX E (zA E (qO E E E zO) (zX E (qc ?_)))))));refine qa ?_;refine ⟨?_,?_,?_⟩
  ·omega
  ·refine ⟨by omega,?_⟩
   rw [qas hu,qas hv,hp.2]
   rw [c2]
  exact zR hL (zC E (zC E (zC E SubT.nil))) SubO.nil
 simp only[↓cqA,cqB]at c1
 refine qV (qq (qq (qad ?_)));refine qa (qd (qb (zX E (zK (qn (zI hL (qg E qh) ?_ ?_))))))
 ·rfl
 exact ⟨q7 (by symm;rw [decide_eq_true_eq];have h:=hp.2;rw [List.take_of_length_le zO,List.take_of_length_le zO] at h;exact h),rfl⟩
theorem qlD (b:Bool)(l:List Int)(hl:l.length≤1000000000):AC Tryz.prog 109 [.dat false 1 (inDs l)] [] (fun r O=>r=.row 3∧O=[(3,.rowd 3 1 b (inDs l))]):=by
 have hlen:=qbH l
 refine qI Tryz.func109 E Tryz.ntmps109 zL fun c hL hQ hDD=>(qd (qb (zX E (zK (qd (qb ?_))))));refine zX E (zK (qd (qd (qb (zX E (zK (qv (qac (l.length) (fun k=>k≤l.length) (fun k=>⟨[(0,.dat false 1 (inDs l)),(3,.row 3),(4,iv (k:Int))],[(3,.rowd 3 1 b (inDs (l.take k)))]⟩) zO ?_ (fun k hk hp=>?_)))))))))
 ·exact Sub.trans (qam (t:=3) (l:=3) 3 1 b E E) (qC (zC E (zC E (zC E SubT.nil))) (SubO.cons (qU E (by rfl)) SubO.nil) E E (noL' (noL hL) _))
 have hl2:(inDs (l.take k)).length≤l.length:=by rw [qbH,List.length_take];omega
 refine qd (qd (qb (zX E (zX E (zA E (qu E qaW E) (zA E (qj E E E E) (qc ?_)))))));refine qa (qo E (fun c0=>?_) (fun c0=>?_))
 ·simp only[↓cqA,cqB]at c0
  obtain ⟨u,hu⟩:=qM (l:=l) (k:=k) (by omega)
  refine qr (qa (qd (qv (qb (zX E (zX E (zX E ?_)))))));refine zA E (qp E qaW E E zO (qfa hu)) (zA E (qW E qQ E) (qt E E zD (qaj 16 E qaW qhR E E zD zD zD E E E) E (qbW E E zD (qaU 17 qin E E E E E E E E (noL hL _) zO E) E ?_)))
  refine zX E (qc (qR (qa (qb (zX E (zA E (qO E E E zO) (zX E ?_)))))));refine zK ?_;refine ⟨?_,?_,?_⟩
  ·omega
  ·omega
  exact Sub.trans (qZ 17 3 (noL hL _) (noL hL _)) (qC (zC E (zC E (zC E SubT.nil))) (SubO.cons (qU E (by rw [qas hu,inDs,inDs,List.map_append];rfl)) SubO.nil) E E (noL' (noL hL) _))
 simp only[↓cqA,cqB]at c0
 refine qV (qq (qq (qad ?_)));refine qa (qd (qb (zX E (zX E (zK (qn ?_))))))
 change retQ _ _ _ _ _ _ _
 refine retO (O':=[(3,_)]) (.inl E) (qg E qh) (SubO.cons E SubO.nil) ?_ ?_ (noL' (noL hL) _) ?_
 ·rfl
 ·rfl
 exact ⟨rfl,by rw [List.take_of_length_le zO]⟩
theorem qnj (x y:List Int)(hx:x.length≤140737488351232)(hy:y.length≤140737488351232):PFm 183 [.dat false 1 (inDs x),.dat false 1 (inDs y)] (iv (cmpG cmpI x y)):=by
 have hlx:=qbH x
 have hly:=qbH y
 refine qI Tryz.func183 E Tryz.ntmps183 zL fun c hL hQ hDD=>(qd (qb (zX E (zK (qd (qd ?_))))));refine qb (zX E (zA E (qu E qaW E) (zX E (zK (qv (qac (x.length) (fun k=>k≤x.length∧k≤y.length∧∀ j a b,j<k→x[j]?=some a→y[j]?=some b→cmpI a b=0) (fun k=>⟨[(0,.dat false 1 (inDs x)),(1,.dat false 1 (inDs y)),(9,.dat false 1 (inDs x)),(10,iv (inDs x).length),(11,iv (k:Int))],[]⟩) (⟨by omega,by omega,fun j a b hj=>absurd hj zO⟩) ?_ (fun k hk hp=>?_)))))))
 ·exact zR hL (zC E (zC E (zC E (zC E (zC E SubT.nil))))) SubO.nil
 refine qd (qb (zA E (qj E E E E) (zK (qd (qo E (fun c0=>?_) (fun c0=>?_))))))
 ·simp only[↓cqA,cqB]at c0
  obtain ⟨u,hu⟩:=qM (l:=x) (k:=k) (by omega)
  have hu2:=List.getElem?_eq_some_iff.1 hu
  refine qr (qa (qd (qv (qd (qb (zX E (zA E (qp E qaW E E zO (qfa hu)) ?_)))))));refine zA E (qW E qQ E) ?_
  refine zX E (zX E (zK (qd (qd (qb (zX E ?_))))));refine zX E (zA E (qu E qaW E) (zA E (qj E E E E) (zK (qo E (fun c1=>?_) (fun c1=>?_)))))
  ·simp only[↓cqA,cqB]at c1
   refine qd (qb (zX E (zK (qn (qm (qP (qm (qm (qP (qm (zI hL (qg E qh) ?_ ?_)))))))))))
   ·rfl
   refine ⟨qbx ?_,rfl⟩
   rw [qen cmpI x y k (by omega) (by omega) hp.2.2,List.drop_eq_getElem_cons (by omega),show List.drop k y=[] from List.drop_eq_nil_of_le (by omega),cmpG]
  simp only[↓cqA,cqB]at c1
  obtain ⟨v,hv⟩:=qM (l:=y) (k:=k) (by omega)
  have hv2:=List.getElem?_eq_some_iff.1 hv
  refine qr (qa (qd (qb (zX E (zX E (zA E (qp E qaW E E zO (qfa hv)) (zA E (qW E qQ E) (zX E (zK (qd (qb (zX E (zX E ?_)))))))))))))
  refine qH (avs:=[_,_]) true E E E zD qcg E E (qgg _ _) E E (zX E (zK (qd (qb (zX E (zA E (qj E E E E) ?_))))));refine zK (qo E (fun c2=>?_) (fun c2=>?_))
  ·simp only[↓cqA,cqB]at c2
   refine qd (qb (zX E (zX E (zK (qn (qP (qm (qm (qP (qm (zI hL (qg E qh) ?_ ?_)))))))))))
   ·rfl
   refine ⟨qbx ?_,rfl⟩
   rw [qen cmpI x y k (by omega) (by omega) hp.2.2,List.drop_eq_getElem_cons (by omega),List.drop_eq_getElem_cons (l:=y) (by omega),cmpG,hu2.2,hv2.2,if_neg (by simpa using c2)]
  simp only[↓cqA,cqB]at c2
  refine qr (qR (qa (qb (zA E (qO E E E zO) (zX E (zK ?_))))));refine ⟨?_,?_,?_⟩
  ·omega
  ·refine ⟨by omega,by omega,fun j a b hj hx hy=>?_⟩
   by_cases hjk:j<k
   ·exact hp.2.2 j a b hjk hx hy
   ·rw [show j=k by omega] at hx hy;rw [hu] at hx;rw [hv] at hy;cases hx;cases hy;simpa using c2
  exact zR hL (zC E (zC E (zC E (zC E (zC E SubT.nil))))) SubO.nil
 simp only[↓cqA,cqB]at c0
 refine qV (qq (qq (qad ?_)));refine qa (qd (qd (qb (zX E (zA E (qu E qaW E) (zX E (zA E (qu E qaW E) ?_)))))));refine zA E (qj E E E E) (zK (qo E (fun c3=>?_) (fun c3=>?_)))
 ·simp only[↓cqA,cqB]at c3
  refine qd (qb (zX E (zK (qn (qm (zI hL (qg E qh) ?_ ?_))))))
  ·rfl
  refine ⟨qbx ?_,rfl⟩
  rw [qen cmpI x y k (by omega) (by omega) hp.2.2,List.drop_eq_nil_of_le (by omega),List.drop_eq_getElem_cons (l:=y) (by omega),cmpG]
 simp only[↓cqA,cqB]at c3
 refine qr (qa (qd (qb (zX E (zK (qn (zI hL (qg E qh) ?_ ?_)))))))
 ·rfl
 refine ⟨qbx ?_,rfl⟩
 rw [qen cmpI x y k (by omega) (by omega) hp.2.2,List.drop_eq_nil_of_le (by omega),List.drop_eq_nil_of_le (by omega),cmpG]
theorem qll (x y:List Bd)(hx:x.length≤140737488351232)(hy:y.length≤140737488351232)(f:Bd→Bd→Int)(g:FuncId)(hen:qY Tryz.prog g)(hg:∀ a b,a∈x→b∈y→PFm g [.agg (lift false (bdD a)),.agg (lift false (bdD b))] (iv (f a b))):
  PFm 185 [bdA x,bdA y,.fn g []] (iv (cmpG f x y)):=by
 have hlx:=qaR x
 have hly:=qaR y
 refine qI Tryz.func185 E Tryz.ntmps185 zL fun c hL hQ hDD=>(qd (qb (zX E (zK (qd (qd ?_))))));refine qb (zX E (zA E (qu E qA E) (zX E (zK (qv (qac (x.length) (fun k=>k≤x.length∧k≤y.length∧∀ j a b,j<k→x[j]?=some a→y[j]?=some b→f a b=0) (fun k=>⟨[(0,bdA x),(1,bdA y),(2,.fn g []),(11,bdA x),(12,iv (bdDs x).length),(13,iv (k:Int))],[]⟩) (⟨by omega,by omega,fun j a b hj=>absurd hj zO⟩) ?_ (fun k hk hp=>?_)))))))
 ·exact zR hL (zC E (zC E (zC E (zC E (zC E (zC E SubT.nil)))))) SubO.nil
 refine qd (qb (zA E (qj E E E E) (zK (qd (qo E (fun c0=>?_) (fun c0=>?_))))))
 ·simp only[↓cqA,cqB]at c0
  obtain ⟨u,hu⟩:=qM (l:=x) (k:=k) (by omega)
  have hu2:=List.getElem?_eq_some_iff.1 hu
  refine qr (qa (qd (qv (qd (qb (zX E (zA E (qp E qA E E zO (qbj hu)) ?_)))))));refine zA E (qD E qa1 E E) ?_
  refine qt E E zD (qat 8 E qa7 E) E (zX E (qT E E E qa1 E E E E E E E E E (zK (qd (qd (qb ?_))))));refine zX E (zX E (zA E (qu E qA E) (zA E (qj E E E E) (zK (qo E (fun c1=>?_) (fun c1=>?_))))))
  ·simp only[↓cqA,cqB]at c1
   refine qd (qb (zX E (zK (qn (qm (qP (qm (qm (qP (qm (zI hL (qg E qh) ?_ ?_)))))))))))
   ·rfl
   refine ⟨qbx ?_,rfl⟩
   rw [qen f x y k (by omega) (by omega) hp.2.2,List.drop_eq_getElem_cons (by omega),show List.drop k y=[] from List.drop_eq_nil_of_le (by omega),cmpG]
  simp only[↓cqA,cqB]at c1
  obtain ⟨v,hv⟩:=qM (l:=y) (k:=k) (by omega)
  have hv2:=List.getElem?_eq_some_iff.1 hv
  refine qr (qa (qd (qb (zX E (zX E (zA E (qp E qA E E zO (qbj hv)) (zA E (qD E qa1 E E) ?_)))))))
  refine qt E E zD (qat 9 E qa7 E) E (qT E E E qa1 E E E E E E E E E (zK (qd (qb (zX E (zA E (qF E qa1 E E E E) ?_))))));refine zA E (qF E qa1 E E E E) ?_
  refine qH (avs:=[_,_]) true E E E zD hen E E (hg u v (List.mem_of_getElem? hu) (List.mem_of_getElem? hv)) E E (zX E (zK (qd (qb (zX E (zA E (qj E E E E) ?_))))));refine zK (qo E (fun c2=>?_) (fun c2=>?_))
  ·simp only[↓cqA,cqB]at c2
   refine qd (qb (zX E (zX E (zK (qn (qP (qm (qm (qP (qm (zI hL (qg E qh) ?_ ?_)))))))))))
   ·rfl
   refine ⟨qbx ?_,rfl⟩
   rw [qen f x y k (by omega) (by omega) hp.2.2,List.drop_eq_getElem_cons (by omega),List.drop_eq_getElem_cons (l:=y) (by omega),cmpG,hu2.2,hv2.2,if_neg (by simpa using c2)]
  simp only[↓cqA,cqB]at c2
  refine qr (qR (qa (qb (zA E (qO E E E zO) (zX E (zK ?_))))));refine ⟨?_,?_,?_⟩
  ·omega
  ·refine ⟨by omega,by omega,fun j a b hj hx hy=>?_⟩
   by_cases hjk:j<k
   ·exact hp.2.2 j a b hjk hx hy
   ·rw [show j=k by omega] at hx hy;rw [hu] at hx;rw [hv] at hy;cases hx;cases hy;simpa using c2
  exact zR hL (zC E (zC E (zC E (zC E (zC E (zC E SubT.nil)))))) SubO.nil
 simp only[↓cqA,cqB]at c0
 refine qV (qq (qq (qad ?_)));refine qa (qd (qd (qb (zX E (zA E (qu E qA E) (zX E (zA E (qu E qA E) ?_)))))));refine zA E (qj E E E E) (zK (qo E (fun c3=>?_) (fun c3=>?_)))
 ·simp only[↓cqA,cqB]at c3
  refine qd (qb (zX E (zK (qn (qm (zI hL (qg E qh) ?_ ?_))))))
  ·rfl
  refine ⟨qbx ?_,rfl⟩
  rw [qen f x y k (by omega) (by omega) hp.2.2,List.drop_eq_nil_of_le (by omega),List.drop_eq_getElem_cons (l:=y) (by omega),cmpG]
 simp only[↓cqA,cqB]at c3
 refine qr (qa (qd (qb (zX E (zK (qn (zI hL (qg E qh) ?_ ?_)))))))
 ·rfl
 refine ⟨qbx ?_,rfl⟩
 rw [qen f x y k (by omega) (by omega) hp.2.2,List.drop_eq_nil_of_le (by omega),List.drop_eq_nil_of_le (by omega),cmpG]
theorem qq0 (a b:Bd)(hd:dle 5 a.t)(ha:a.wf)(hb:b.wf):PFm 186 [.agg (lift false (bdD a)),.agg (lift false (bdD b))] (iv (qlq a b)):=by
 have ha2:=ha.2
 have hb2:=hb.2
 refine qI Tryz.func186 E Tryz.ntmps186 zL fun c hL hQ hDD=>(qd (qb (qt E E zD (q6 2 E E E) E (qt E E zD (q6 3 E E E) E (zX E (zK ?_))))));refine qd (qX 9 mixed E E E E (zU E (qe E qa5 E) (zU E (qi E qar E E E E E) (zU E (qe E qa5 E) (zU E (qi E qar E E E E E) (zU E (qai (avs:=[_,_]) true E qei E E (qew _ _) (fun _=>rfl) E) (zU E (qe E qbc E) (zU E (qi E qz E E E E E) ?_))))))))
 refine zU E (qe E qbc E) (zU E (qi E qz E E E E E) (qaq ⟨rfl,rfl,?_⟩));refine qH (avs:=[_,_]) true E E E zD qeh E E (qhI 5 a.t b.t hd ha2 hb2) E E (qt E E zD (qaj 15 E qaW qhR E E zD zD zD E E E) E (qcE 15 false 2 E E E E (qH (avs:=[_]) true E E E zD qgI E E (qm6 [cmpS a.name b.name,cmpT 5 a.t b.t] (by simp)) rfl rfl (zN rfl rfl rfl (zK (qn (zI hL (qg E qh) ?_ ?_)))))))
 ·rfl
 exact ⟨rfl,rfl⟩
theorem qhV (a b:Mt)(hd:∀ x∈a.b,dle 5 x.t)(ha:a.wf)(hb:b.wf):PFm 117 [mtA a,mtA b] (iv (cmpM a b)):=by
 obtain ⟨⟨la,wa⟩,_,lua,_⟩:=id ha
 obtain ⟨⟨lb,wb⟩,_,lub,_⟩:=id hb
 simp only [qbt] at la lb lua lub
 refine qI Tryz.func117 E Tryz.ntmps117 zL fun c hL hQ hDD=>(qd (qb (qt E E zD (q6 2 E E E) E (qt E E zD (q6 3 E E E) E (zX E (zK ?_))))));refine qd (qX 23 mixed E E E E (zU E (qe E qaV E) (zU E (qi E qbZ E E E E E) (zU E (qe E qaV E) (zU E (qi E qbZ E E E E E) (zU E (qai (avs:=[_,_]) true E qfL E E (qnj a.u b.u zO zO) (fun _=>rfl) E) (zU E (qe E qae E) (zU E (qe E qal E) (zU E (qi E qQ E E E E E) (zU E (qe E qae E) (zU E (qe E qal E) (zU E (qi E qQ E E E E E) (zU E (qai (avs:=[_,_]) true E qcg E E (qgg _ _) (fun _=>rfl) E) ?_)))))))))))))
 refine zU E (qe E qae E) (zU E (qe E qak E) (zU E (qi E qQ E E E E E) (zU E (qe E qae E) (zU E (qe E qak E) (zU E (qi E qQ E E E E E) (zU E (qai (avs:=[_,_]) true E qcg E E (qgg _ _) (fun _=>rfl) E) (zU E (qe E qaH E) (zU E (qi E qaK E E E E E) (zU E (qe E qaH E) (zU E (qi E qaK E E E E E) ?_))))))))))
 refine qaq ⟨rfl,rfl,?_⟩;refine qH (avs:=[_,_,_]) true E E E zD qcd E E (qll a.b b.b zO zO qlq _ qph (fun u v hu hv=>qq0 u v (hd u hu) (wa u hu) (wb v hv))) E E (qt E E zD (qaj 29 E qaW qhR E E zD zD zD E E E) E (qcE 29 false 4 E E E E (qH (avs:=[_]) true E E E zD qgI E E (qm6 [cmpG cmpI a.u b.u,cmpI a.fr b.fr,cmpI a.to b.to,cmpG qlq a.b b.b] (by simp)) rfl rfl (zN rfl rfl rfl (zK (qn (zI hL (qg E qh) ?_ ?_)))))))
 ·rfl
 exact ⟨rfl,rfl⟩
end Go.Proofs.YtpgceiijoedppaaGreat