/- Part 18 of the proof: Fh. -/
import Derived.Test.YtpgceiijoedppaaGreatC17
set_option linter.unusedVariables false
set_option linter.unusedSimpArgs false
set_option maxRecDepth 8000
namespace Go.Proofs.YtpgceiijoedppaaGreat
open Go
theorem qiW:∀ a b:List UInt8,Lib.compareBytes a b=if Op.bytesLess a b=true then -1 else if a=b then 0 else 1
 | [],[]=>by simp [Lib.compareBytes,Op.bytesLess]
 | [],_::_=>by simp [Lib.compareBytes,Op.bytesLess]
 | _::_,[]=>by simp [Lib.compareBytes,Op.bytesLess]
 | a::l,b::m=>by
   have ih:=qiW l m
   simp only [Lib.compareBytes,Op.bytesLess]
   by_cases h1:a<b
   ·simp [h1]
   ·by_cases h2:b<a
    ·have:a≠b:=fun e=>by subst e;exact h1 h2
     simp [h1,h2,this]
    ·have:a=b:=by
      rcases Nat.lt_trichotomy a.toNat b.toNat with h|h|h
      ·exact absurd (UInt8.lt_iff_toNat_lt.2 h) h1
      ·exact UInt8.toNat_inj.1 h
      ·exact absurd (UInt8.lt_iff_toNat_lt.2 h) h2
     subst this
     simp [h1,ih]
theorem qhj (a b:ByteArray):cmpS a b=if ltS a b=true then -1 else if a=b then 0 else 1:=by
 unfold cmpS ltS
 rw [qiW,ByteArray.toList_eq,ByteArray.toList_eq]
 have:a.data.toList=b.data.toList↔a=b:=by rw [← ByteArray.toList_eq,← ByteArray.toList_eq];exact toList_inj
 simp only [this]
theorem qpR (x y:ByteArray):PF 222 [sv x,sv y] (iv (cmpS x y)):=by
 refine qI Tryz.func222 E Tryz.ntmps222 zL fun c hL hQ hDD=>(qd (qb (zX E (zK (qd (qv ?_))))));refine qd (qb (zX E (zX E (zA E (qcH E E E E) (zX E (zK (qo E (fun c0=>?_) (fun c0=>?_))))))))
 ·refine qd (qb (zX E (zK (qn (qP (qm (zI hL (qg E qh) ?_ ?_)))))))
  ·rfl
  refine ⟨qbx ?_,rfl⟩
  rw [qhj,if_pos (show ltS x y=true from c0)]
 refine qd (qb (zX E (zX E (zA E (qcH E E E E) (zX E (zK ?_))))));refine qo E (fun c1=>?_) (fun c1=>?_)
 ·simp only[↓cqA,cqB]at c1
  refine qd (qb (zX E (zK (qn (qP (qm (zI hL (qg E qh) ?_ ?_)))))))
  ·rfl
  refine ⟨qbx ?_,rfl⟩
  simp only [Bool.or_eq_false_iff] at c1
  rw [qhj,if_neg (show ¬ ltS x y=true by rw [show ltS x y=false from c0];simp),if_neg (by intro h;have:=c1.2;simp [h] at this)]
 simp only[↓cqA,cqB]at c1
 refine qr (qR (qa (qd (qb (zX E (zK ?_))))));refine qn (zI hL (qg E qh) ?_ ?_)
 ·rfl
 refine ⟨qbx ?_,rfl⟩
 have c0':Op.bytesLess x.toList y.toList=false:=c0
 rw [c0'] at c1
 simp only [Bool.false_or,qip] at c1
 rw [qhj,if_neg (show ¬ ltS x y=true by rw [show ltS x y=false from c0];simp),if_pos c1]
def ordL (f:Tm→Tm→Int):Int→List Tm→List Tm→Int
 | n,a::l,b::m=>if n=0 then ordL f (f a b) l m else n
 | n,_,_=>n
def ordT:Nat→Tm→Tm→Int
 | 0,_,_=>0
 | d+1,a,b=>
   if a.kind≠b.kind then cmpI a.kind b.kind
   else if a.kind=1 then cmpS a.name b.name
   else if a.kind=2 then cmpI a.n b.n
   else ordL (ordT d) (if cmpI a.args.length b.args.length=0 then cmpS a.name b.name else cmpI a.args.length b.args.length) a.args b.args
theorem qkK (f:Tm→Tm→Int):∀ (k:Nat) (n:Int) (l m:List Tm),k≤l.length→k≤m.length→(∀ j,j<k→ordL f n (l.take j) (m.take j)=0)→ordL f n l m=ordL f (ordL f n (l.take k) (m.take k)) (l.drop k) (m.drop k)
 | 0,n,l,m,_,_,_=>by simp [ordL]
 | k+1,n,[],m,h,_,_=>by simp at h
 | k+1,n,l,[],_,h,_=>by simp at h
 | k+1,n,a::l,b::m,h1,h2,h=>by
   have h0:n=0:=by have:=h 0 (by omega);simpa [ordL] using this
   simp only [List.take_succ_cons,List.drop_succ_cons,ordL,if_pos h0]
   refine qkK f k _ l m (by simpa using h1) (by simpa using h2) fun j hj=>?_
   have:=h (j+1) (by omega)
   simpa [ordL,h0] using this
theorem qnG (f:Tm→Tm→Int)(n:Int)(l m:List Tm)(h:¬ n=0):ordL f n l m=n:=by
 cases l<;>cases m<;>simp [ordL,h]
theorem qnH (f:Tm→Tm→Int)(n:Int)(l m:List Tm)(a b:Tm)(hl:l.length=m.length)(h:∀ j,j≤l.length→ordL f n (l.take j) (m.take j)=0):ordL f n (l++[a]) (m++[b])=f a b:=by
 have h1:=qkK f l.length n (l++[a]) (m++[b]) (by simp) (by simp;omega) (fun j hj=>by
  have:=h j (by omega)
  rwa [List.take_append_of_le_length (by omega),List.take_append_of_le_length (by omega)])
 have h2:=h l.length (Nat.le_refl _)
 rw [h1]
 simp only [List.take_left,List.drop_left]
 rw [hl,List.take_left,List.drop_left]
 rw [List.take_length,hl,List.take_length] at h2
 rw [h2]
 simp [ordL]
theorem qgw (f:Tm→Tm→Int)(n:Int)(l m:List Tm)(h:l=[]∨m=[]):ordL f n l m=n:=by
 rcases h with rfl|rfl
 ·cases m<;>rfl
 ·cases l<;>rfl
theorem qj9 (f:Tm→Tm→Int)(n:Int)(l m:List Tm)(k:Nat)(hk:k≤l.length)(h:∀ j,j<k→ordL f n (l.take j) (m.take j)=0)(he:k=l.length∨¬ ordL f n (l.take k) (m.take k)=0)(hn:n=0→l.length=m.length):ordL f n (l.take k) (m.take k)=ordL f n l m:=by
 by_cases h0:k=0
 ·subst h0
  simp only [List.take_zero] at he ⊢
  rw [qgw f n [] [] (.inl rfl)] at he ⊢
  rcases he with he|he
  ·rw [qgw f n l m (.inl (List.eq_nil_of_length_eq_zero he.symm))]
  ·exact (qnG f n l m he).symm
 ·have hz:=h 0 (by omega)
  simp only [List.take_zero] at hz
  rw [qgw f n [] [] (.inl rfl)] at hz
  have hl:=hn hz
  rcases he with he|he
  ·rw [List.take_of_length_le (by omega),List.take_of_length_le (by omega)]
  ·exact ((qkK f k n l m hk (by omega) h).trans (qnG f _ _ _ he)).symm
theorem qnc:∀ (d:Nat) (a b:Tm),dle d a→a.wf→b.wf→PF 163 [tmA false a,tmA false b] (iv (ordT d a b))
 | 0,a,b,h,_,_=>h.elim
 | d+1,a,b,h,ha,hb=>by
   have h1:=ha.2.2.2.1
   have h2:=hb.2.2.2.1
   have hla:=qaY a.args
   have hlb:=qaY b.args
   have hcl:cmpI a.args.length b.args.length=0→a.args.length=b.args.length:=fun h=>by
    simp only [cmpI] at h
    split at h
    ·cases h
    ·split at h
     ·cases h
     ·omega
   let n0:Int:=if cmpI a.args.length b.args.length=0 then cmpS a.name b.name else cmpI a.args.length b.args.length
   have hn0:n0=0→a.args.length=b.args.length:=fun hz=>hcl (by
    by_cases hq:cmpI a.args.length b.args.length=0
    ·exact hq
    ·simpa only [n0,if_neg hq] using hz)
   refine qI Tryz.func163 E Tryz.ntmps163 zL fun c hL hQ hDD=>(qd (qb (qt E E zD (q6 2 E E E) E (qt E E zD (q6 3 E E E) E (zX E (zK ?_))))));refine qd (qd (qb (zA E (qe E qaL E) (zA E (qi E qQ E E E E E) (zA E (qe E qaL E) (zA E (qi E qQ E E E E E) (zA E (qj E E E E) (zK (qo E (fun c0=>?_) (fun c0=>?_))))))))))
   ·simp only[↓cqA,cqB]at c0
    refine qd (qb (zA E (qe E qaL E) (zA E (qi E qQ E E E E E) (zA E (qe E qaL E) (zA E (qi E qQ E E E E E) (qH (avs:=[_,_]) true E E E zD qdR E E (qmA _ _) E E (zX E (zK (qn (qm (zI hL (qg E qh) ?_ ?_)))))))))))
    ·rfl
    exact ⟨qbx (by rw [ordT,if_pos c0]),rfl⟩
   simp only[↓cqA,cqB]at c0
   refine qr (qa (qd (qb (zX E (zK (qd ?_))))));refine qd (qb (zA E (qe E qaL E) (zA E (qi E qQ E E E E E) ?_)))
   refine zK (qv (qd (qb (zA E (qj E E E E) (zX E (qc ?_))))));refine qa (qo E (fun c1=>?_) (fun c1=>?_))
   ·simp only[↓cqA,cqB]at c1
    refine qd (qb (zA E (qe E qay E) (zA E (qi E qar E E E E E) (zA E (qe E qay E) (zA E (qi E qar E E E E E) (qH (avs:=[_,_]) true E E E zD qe1 E E (qpR _ _) E E (zX E (zK (qn (qP (qm (zI hL (qg E qh) ?_ ?_))))))))))))
    ·rfl
    exact ⟨qbx (by rw [ordT,if_neg (by simp [c0]),if_pos c1]),rfl⟩
   simp only[↓cqA,cqB]at c1
   refine qd (qb (zA E (qj E E E E) (zX E (zK (qo E (fun c2=>?_) (fun c2=>?_))))))
   ·simp only[↓cqA,cqB]at c2
    refine qd (qb (zA E (qe E qbb E) (zA E (qi E qQ E E E E E) (zA E (qe E qbb E) (zA E (qi E qQ E E E E E) (qH (avs:=[_,_]) true E E E zD qdR E E (qmA _ _) E E (zX E (zK (qn (qP (qm (zI hL (qg E qh) ?_ ?_))))))))))))
    ·rfl
    exact ⟨qbx (by rw [ordT,if_neg (by simp [c0]),if_neg c1,if_pos c2]),rfl⟩
   simp only[↓cqA,cqB]at c2
   refine qr (qR (qa (qd (qb (zA E (qe E qaa E) (zA E (qi E q9 E E E E E) (zA E (qu E qN E) ?_)))))));refine zA E (qe E qaa E) (zA E (qi E q9 E E E E E) (zA E (qu E qN E) ?_))
   refine qH (avs:=[_,_]) true E E E zD qdR E E (qmA _ _) E E (zX E (zK (qd (qd (qb (zX E ?_))))));refine zA E (qj E E E E) (zK (qo E (fun c3=>?_) (fun c3=>?_)))
   ·simp only[↓cqA,cqB]at c3
    refine qb (zA E (qe E qay E) (zA E (qi E qar E E E E E) (zA E (qe E qay E) (zA E (qi E qar E E E E E) ?_))))
    refine qH (avs:=[_,_]) true E E E zD qe1 E E (qpR _ _) E E (zX E (zK (qd (qd (qb (zX E ?_))))));refine zK (qv (qac (a.args.length) (fun k=>k≤a.args.length∧∀ j,j<k→ordL (ordT d) n0 (a.args.take j) (b.args.take j)=0) (fun k=>⟨[(2,.ptr 2 0),(3,.ptr 3 0),(5,iv (ordL (ordT d) n0 (a.args.take k) (b.args.take k))),(6,iv (k:Int))],[(2,.box (lift false (tmD a))),(3,.box (lift false (tmD b)))]⟩) (⟨by omega,fun j hj=>absurd hj zO⟩) ?_ (fun k hk hp=>?_)))
    ·exact zR hL (zC E (zC E (SubT.cons (qaw E (by exact qan (by rw [hla,hlb] at c3;simp only [n0,List.take_zero,ordL,c3,if_true,if_false,hla,hlb]))) (zC rfl SubT.nil)))) (SubO.cons (qU rfl (by rfl)) (SubO.cons (qU E (by rfl)) SubO.nil))
    refine qd (qd (qb (zX E (zA E (qe E qaa E) (zA E (qi E q9 E E E E E) (zA E (qu E qN E) (zA E (qj E E E E) ?_)))))));refine zX E (qE 52 E (fun g52=>?_) (fun g52=>?_))
    ·simp only[↓cqA,cqB]at g52
     refine zZ E (ql (.inl E) E) (zZ E (qj E E E E) (zA E (qk E E E) (zK (qo E (fun c4=>?_) (fun c4=>?_)))))
     ·simp only[↓cqA,cqB]at c4
      have hz:n0=0:=by
       by_cases hk00:0<k
       ·have:=hp.2 0 hk00
        simpa only [List.take_zero,qgw (ordT d) n0 [] [] (.inl E)] using this
       ·have e:k=0:=by omega
        rw [e] at c4
        simpa only [List.take_zero,qgw (ordT d) n0 [] [] (.inl E)] using c4
      have hll:a.args.length=b.args.length:=hn0 hz
      obtain ⟨u,hu⟩:=qM (l:=a.args) (k:=k) (by omega)
      obtain ⟨v,hv⟩:=qM (l:=b.args) (k:=k) (by omega)
      have hum:=List.mem_of_getElem? hu
      have hvm:=List.mem_of_getElem? hv
      refine qr (qa (qd (qv (qX 10 mixed E E E E (zU E (qe E qaa E) (zU E (qi E q9 E E E E E) (zU E (ql (.inl E) E) ?_)))))));refine zU E (qp E qN E E zO (qbP hu)) (zU E (qD E qz E E) (zU E (qe E qaa E) (zU E (qi E q9 E E E E E) (zU E (ql (.inl E) E) (zU E (qp E qN E E zO (qbP hv)) (zU E (qD E qz E E) ?_))))))
      refine qaq ⟨rfl,rfl,?_⟩;refine qH (avs:=[_,_]) true E E E zD qdD E E (qnc d u v (h u hum) (Tm.wfs_mem ha.2.2.2.2 hum) (Tm.wfs_mem hb.2.2.2.2 hvm)) E E (zX E (qc (qR (qa (qb (zX E (zA E (qO E E E zO) (zX E (qc ?_)))))))))
      have hb5:ordT d u v=ordL (ordT d) n0 (a.args.take (k+1)) (b.args.take (k+1)):=by
       rw [qas hu,qas hv,qnH _ _ _ _ _ _ (by simp;omega) (fun j hj=>by
        by_cases hjk:j<k
        ·have:=hp.2 j hjk;rwa [List.take_take,List.take_take,Nat.min_eq_left (by omega)]
        ·have hj2:j≤k:=by rw [List.length_take] at hj;omega
         rw [show j=k by omega,List.take_take,List.take_take,Nat.min_self];exact c4)]
      refine qa ?_;refine ⟨?_,?_,?_⟩
      ·omega
      ·refine ⟨by omega,fun j hj=>?_⟩
       by_cases hjk:j<k
       ·exact hp.2 j hjk
       ·rw [show j=k by omega];exact c4
      exact zR hL (zC E (zC E (SubT.cons (qaw E (by exact qan hb5)) (zC E SubT.nil)))) (SubO.cons (qU E (by rfl)) (SubO.cons (qU E (by rfl)) SubO.nil))
     simp only[↓cqA,cqB]at c4
     have hfin:=qj9 (ordT d) n0 a.args b.args k hp.1 hp.2 (.inr c4) hn0
     refine qV (qq (qq (qad ?_)));refine qa (qd (qb (zX E (zX E (zK (qn (zI hL (qg E qh) ?_ ?_)))))))
     ·rfl
     exact ⟨qbx (by rw [ordT,if_neg (by simp [c0]),if_neg c1,if_neg c2];exact hfin),rfl⟩
    simp only[↓cqA,cqB]at g52
    have hfin:=qj9 (ordT d) n0 a.args b.args k hp.1 hp.2 (.inl (by omega)) hn0
    refine zY E (zY E (zA E (qk E E E) (zK (qaA E (qV (qq (qq (qad ?_))))))));refine qa (qd (qb (zX E (zX E (zK (qn (zI hL (qg E qh) ?_ ?_)))))))
    ·rfl
    exact ⟨qbx (by rw [ordT,if_neg (by simp [c0]),if_neg c1,if_neg c2];exact hfin),rfl⟩
   simp only[↓cqA,cqB]at c3
   refine qr (qa (qd (qd (qb (zX E (zK ?_))))));refine qv (qac (a.args.length) (fun k=>k≤a.args.length∧∀ j,j<k→ordL (ordT d) n0 (a.args.take j) (b.args.take j)=0) (fun k=>⟨[(2,.ptr 2 0),(3,.ptr 3 0),(5,iv (ordL (ordT d) n0 (a.args.take k) (b.args.take k))),(6,iv (k:Int))],[(2,.box (lift false (tmD a))),(3,.box (lift false (tmD b)))]⟩) (⟨by omega,fun j hj=>absurd hj zO⟩) ?_ (fun k hk hp=>?_))
   ·exact zR hL (zC E (zC E (SubT.cons (qaw E (by exact qan (by rw [hla,hlb] at c3;simp only [n0,List.take_zero,ordL,c3,if_true,if_false,hla,hlb]))) (zC rfl SubT.nil)))) (SubO.cons (qU rfl (by rfl)) (SubO.cons (qU E (by rfl)) SubO.nil))
   refine qd (qd (qb (zX E (zA E (qe E qaa E) (zA E (qi E q9 E E E E E) (zA E (qu E qN E) (zA E (qj E E E E) ?_)))))));refine zX E (qE 52 E (fun g52=>?_) (fun g52=>?_))
   ·simp only[↓cqA,cqB]at g52
    refine zZ E (ql (.inl E) E) (zZ E (qj E E E E) (zA E (qk E E E) (zK (qo E (fun c4=>?_) (fun c4=>?_)))))
    ·simp only[↓cqA,cqB]at c4
     have hz:n0=0:=by
      by_cases hk00:0<k
      ·have:=hp.2 0 hk00
       simpa only [List.take_zero,qgw (ordT d) n0 [] [] (.inl E)] using this
      ·have e:k=0:=by omega
       rw [e] at c4
       simpa only [List.take_zero,qgw (ordT d) n0 [] [] (.inl E)] using c4
     have hll:a.args.length=b.args.length:=hn0 hz
     obtain ⟨u,hu⟩:=qM (l:=a.args) (k:=k) (by omega)
     obtain ⟨v,hv⟩:=qM (l:=b.args) (k:=k) (by omega)
     have hum:=List.mem_of_getElem? hu
     have hvm:=List.mem_of_getElem? hv
     refine qr (qa (qd (qv (qX 10 mixed E E E E (zU E (qe E qaa E) (zU E (qi E q9 E E E E E) (zU E (ql (.inl E) E) ?_)))))));refine zU E (qp E qN E E zO (qbP hu)) (zU E (qD E qz E E) (zU E (qe E qaa E) (zU E (qi E q9 E E E E E) (zU E (ql (.inl E) E) (zU E (qp E qN E E zO (qbP hv)) (zU E (qD E qz E E) ?_))))))
     refine qaq ⟨rfl,rfl,?_⟩;refine qH (avs:=[_,_]) true E E E zD qdD E E (qnc d u v (h u hum) (Tm.wfs_mem ha.2.2.2.2 hum) (Tm.wfs_mem hb.2.2.2.2 hvm)) E E (zX E (qc (qR (qa (qb (zX E (zA E (qO E E E zO) (zX E (qc ?_)))))))))
     have hb5:ordT d u v=ordL (ordT d) n0 (a.args.take (k+1)) (b.args.take (k+1)):=by
      rw [qas hu,qas hv,qnH _ _ _ _ _ _ (by simp;omega) (fun j hj=>by
       by_cases hjk:j<k
       ·have:=hp.2 j hjk;rwa [List.take_take,List.take_take,Nat.min_eq_left (by omega)]
       ·have hj2:j≤k:=by rw [List.length_take] at hj;omega
        rw [show j=k by omega,List.take_take,List.take_take,Nat.min_self];exact c4)]
     refine qa ?_;refine ⟨?_,?_,?_⟩
     ·omega
     ·refine ⟨by omega,fun j hj=>?_⟩
      by_cases hjk:j<k
      ·exact hp.2 j hjk
      ·rw [show j=k by omega];exact c4
     exact zR hL (zC E (zC E (SubT.cons (qaw E (by exact qan hb5)) (zC E SubT.nil)))) (SubO.cons (qU E (by rfl)) (SubO.cons (qU E (by rfl)) SubO.nil))
    simp only[↓cqA,cqB]at c4
    have hfin:=qj9 (ordT d) n0 a.args b.args k hp.1 hp.2 (.inr c4) hn0
    refine qV (qq (qq (qad ?_)));refine qa (qd (qb (zX E (zX E (zK (qn (zI hL (qg E qh) ?_ ?_)))))))
    ·rfl
    exact ⟨qbx (by rw [ordT,if_neg (by simp [c0]),if_neg c1,if_neg c2];exact hfin),rfl⟩
   simp only[↓cqA,cqB]at g52
   have hfin:=qj9 (ordT d) n0 a.args b.args k hp.1 hp.2 (.inl (by omega)) hn0
   refine zY E (zY E (zA E (qk E E E) (zK (qaA E (qV (qq (qq (qad ?_))))))));refine qa (qd (qb (zX E (zX E (zK (qn (zI hL (qg E qh) ?_ ?_)))))))
   ·rfl
   exact ⟨qbx (by rw [ordT,if_neg (by simp [c0]),if_neg c1,if_neg c2];exact hfin),rfl⟩
theorem qhD (a b:ByteArray):a.data=b.data↔a=b:=⟨fun h=>by cases a;cases b;simpa using h,fun h=>by rw [h]⟩
def eqL (f:Tm→Tm→Bool):List Tm→List Tm→Bool
 | [],[]=>true
 | a::l,b::m=>f a b&&eqL f l m
 | _,_=>false
def eqT:Nat→Tm→Tm→Bool
 | 0,_,_=>false
 | d+1,a,b=>decide (a.kind=b.kind)&&decide (a.name.data.toList=b.name.data.toList)&&decide (a.n=b.n)&&eqL (eqT d) a.args b.args
theorem qpe (f:Tm→Tm→Bool):∀ {l m:List Tm},l.length≠m.length→eqL f l m=false
 | [],[],h=>absurd E h
 | a::l,b::m,h=>by simp only [eqL,qpe f (l:=l) (m:=m) (by simpa using h),Bool.and_false]
 | [],_::_,_=>rfl
 | _::_,[],_=>rfl
theorem qqr (f:Tm→Tm→Bool):∀ {l m:List Tm},l.length=m.length→(∀ (j:Nat) (a b:Tm),l[j]?=some a→m[j]?=some b→f a b=true)→eqL f l m=true
 | [],[],_,_=>rfl
 | a::l,b::m,h,k=>by
   simp only [eqL,Bool.and_eq_true]
   exact ⟨k 0 a b (by simp) (by simp),qqr f (by simpa using h) fun j a b h1 h2=>k (j+1) a b (by simpa using h1) (by simpa using h2)⟩
theorem qn6 (f:Tm→Tm→Bool):∀ {l m:List Tm} (j:Nat) {a b:Tm},l[j]?=some a→m[j]?=some b→f a b=false→eqL f l m=false
 | [],_,j,a,b,h,_,_=>by simp at h
 | _::_,[],j,a,b,_,h,_=>by simp at h
 | x::l,y::m,0,a,b,h1,h2,h=>by
   simp only [List.getElem?_cons_zero,Option.some.injEq] at h1 h2
   subst h1;subst h2;simp [eqL,h]
 | x::l,y::m,j+1,a,b,h1,h2,h=>by
   simp [eqL,qn6 f (l:=l) (m:=m) j (by simpa using h1) (by simpa using h2) h]
def EqC (d:Nat):Prop:=∀ a b:Tm,dle d a→a.wf→b.wf→PF 100 [tmA false a,tmA false b] (bv (eqT d a b))
theorem qrt (d:Nat)(ih:EqC d)(x y:List Tm)(hx:∀ u,u∈x→dle d u)(wx:Tm.wfs x)(wy:Tm.wfs y)(lx:x.length≤140737488351232)(ly:y.length≤140737488351232):PF 159 [.dat false 4 (tmDs x),.dat false 4 (tmDs y)] (bv (eqL (eqT d) x y)):=by
 have hlx:=qaY x
 have hly:=qaY y
 refine qI Tryz.func159 E Tryz.ntmps159 zL fun c hL hQ hDD=>(qd (qb (zX E (zK (qd (qd ?_))))));refine qb (zX E (zA E (qu E qN E) (zX E (zA E (qu E qN E) (zA E (qj E E E E) (zK (qo E (fun c0=>?_) (fun c0=>?_))))))))
 ·simp only[↓cqA,cqB]at c0
  refine qd (qb (zX E (zK (qn (qm (zI hL (qg E qh) ?_ ?_))))))
  ·rfl
  exact ⟨q7 (qpe _ zO).symm,rfl⟩
 simp only[↓cqA,cqB]at c0
 refine qr (qa (qd (qd (qb (zX E (zK ?_))))));refine qv (qac (x.length) (fun k=>k≤x.length∧∀ j a b,j<k→x[j]?=some a→y[j]?=some b→eqT d a b=true) (fun k=>⟨[(0,.dat false 4 (tmDs x)),(1,.dat false 4 (tmDs y)),(5,iv (k:Int))],[]⟩) (⟨by omega,fun j a b hj=>absurd hj zO⟩) ?_ (fun k hk hp=>?_))
 ·exact zR hL (zC E (zC E (zC E SubT.nil))) SubO.nil
 refine qd (qd (qb (zX E (zX E (zA E (qu E qN E) (zA E (qj E E E E) (qc ?_)))))));refine qa (qo E (fun c1=>?_) (fun c1=>?_))
 ·simp only[↓cqA,cqB]at c1
  obtain ⟨u,hu⟩:=qM (l:=x) (k:=k) (by omega)
  obtain ⟨v,hv⟩:=qM (l:=y) (k:=k) (by omega)
  refine qr (qa (qd (qv (qd (qX 8 mixed E E E E (zU E (ql (.inl E) E) (zU E (ql (.inl E) E) ?_)))))));refine zU E (qp E qN E E zO (qbP hu)) (zU E (qD E qz E E) (zU E (ql (.inl E) E) (zU E (ql (.inl E) E) (zU E (qp E qN E E zO (qbP hv)) (zU E (qD E qz E E) ?_)))))
  refine qaq ⟨rfl,rfl,?_⟩;refine qH (avs:=[_,_]) true E E E zD qbg E E (ih u v (hx u (List.mem_of_getElem? hu)) (Tm.wfs_get wx hu) (Tm.wfs_get wy hv)) E E (zA E (qaB E E) (zK (qo E (fun c2=>?_) (fun c2=>?_))))
  ·simp only[↓cqA,cqB]at c2
   refine qd (qb (zX E (zK (qn (qP (qm (qm (qP (qm (zI hL (qg E qh) ?_ ?_))))))))))
   ·rfl
   exact ⟨q7 (qn6 _ k hu hv c2).symm,rfl⟩
  simp only[↓cqA,cqB]at c2
  refine qr (qR (qa (qb (zX E (zA E (qO E E E zO) (zX E (qc ?_)))))));refine qa ?_;refine ⟨?_,?_,?_⟩
  ·omega
  ·refine ⟨by omega,fun j a b hj ha hb=>?_⟩
   by_cases hjk:j<k
   ·exact hp.2 j a b hjk ha hb
   ·rw [show j=k by omega] at ha hb;rw [hu] at ha;rw [hv] at hb;cases ha;cases hb;exact c2
  exact zR hL (zC E (zC E (zC E SubT.nil))) SubO.nil
 simp only[↓cqA,cqB]at c1
 refine qV (qq (qq (qad ?_)));refine qa (qd (qb (zX E (zK (qn (zI hL (qg E qh) ?_ ?_))))))
 ·rfl
 exact ⟨q7 (qqr _ zO (fun j a b ha hb=>hp.2 j a b (by have:=(List.getElem?_eq_some_iff.1 ha).1;omega) ha hb)).symm,rfl⟩
theorem qeT:∀ d:Nat,EqC d
 | 0=>fun a b h _ _=>h.elim
 | d+1=>fun a b h ha hb=>by
   have h1:=ha.2.2.2.1
   have h2:=hb.2.2.2.1
   refine qI Tryz.func100 E Tryz.ntmps100 zL fun c hL hQ hDD=>(qd (qb (qt E E zD (q6 2 E E E) E (qt E E zD (q6 3 E E E) E (zX E (zK ?_))))));refine qd (qb (zA E (qe E qaL E) (zA E (qi E qQ E E E E E) (zA E (qe E qaL E) (zA E (qi E qQ E E E E E) (zA E (qj E E E E) (zX E (qE 10 E (fun g10=>?_) (fun g10=>?_)))))))))
   ·simp only[↓cqA,cqB]at g10
    refine zZ E (qe E qay E) (zZ E (qi E qar E E E E E) (zZ E (qe E qay E) (zZ E (qi E qar E E E E E) (zZ E (qcH E E E E) (zA E (qk E E E) (zX E (qE 17 E (fun g17=>?_) (fun g17=>?_))))))))
    ·simp only[↓cqA,cqB]at g17
     refine zZ E (qe E qbb E) (zZ E (qi E qQ E E E E E) (zZ E (qe E qbb E) (zZ E (qi E qQ E E E E E) (zZ E (qj E E E E) (zA E (qk E E E) (zX E (qE 24 E (fun g24=>?_) (fun g24=>?_))))))))
     ·simp only[↓cqA,cqB]at g24
      refine zZ E (qe E qaa E) (zZ E (qi E q9 E E E E E) (zZ E (qe E qaa E) (zZ E (qi E q9 E E E E E) (zZ E (qai (avs:=[_,_]) true E qgK E E (qrt d (qeT d) a.args b.args h ha.2.2.2.2 hb.2.2.2.2 zO zO) (fun _=>rfl) E) (zA E (qk E E E) (zX E (zK (qn (zI hL (qg E qh) ?_ ?_)))))))))
      ·rfl
      refine ⟨q7 ?_,rfl⟩
      simp_all [eqT,qhD]
     simp only[↓cqA,cqB]at g24
     refine zY E (zY E (zY E (zY E (zY E (zA E (qk E E E) (zX E (qc ?_)))))));refine qa (qn (zI hL (qg E qh) ?_ ?_))
     ·rfl
     refine ⟨q7 ?_,rfl⟩
     simp_all [eqT,qhD]
    simp only[↓cqA,cqB]at g17
    refine zY E (zY E (zY E (zY E (zY E (zA E (qk E E E) ?_)))))
    refine zX E (zY E (zY E (zY E (zY E (zY E (zA E (qk E E E) (zX E ?_)))))));refine zK (qn (zI hL (qg E qh) ?_ ?_))
    ·rfl
    refine ⟨q7 ?_,rfl⟩
    simp_all [eqT,qhD]
   simp only[↓cqA,cqB]at g10
   refine zY E (zY E (zY E (zY E (zY E (zA E (qk E E E) (zX E (zY E (zY E (zY E (zY E (zY E (zA E (qk E E E) (zX E (zY E (zY E (zY E (zY E (zY E (zA E (qk E E E) (zX E (zK (qn (zI hL (qg E qh) ?_ ?_)))))))))))))))))))))))
   ·rfl
   refine ⟨q7 ?_,rfl⟩
   simp_all [eqT,qhD]
end Go.Proofs.YtpgceiijoedppaaGreat