/- Part 25 of the proof: Hb, He, Hg, Hi. -/
import Derived.Test.YtpgceiijoedppaaGreatC24
set_option linter.unusedVariables false
set_option linter.unusedSimpArgs false
set_option maxRecDepth 8000
namespace Go.Proofs.YtpgceiijoedppaaGreat
open Go
variable {α:Type}
theorem qoA (l:List Tm)(hl:l.length*56≤140737488351232)(hC:∀ u∈l,PF 79 [tmA false u] (.agg (lift true (tmD u)))):AC Tryz.prog 139 [.dat false 4 (tmDs l)] [] (fun r O=>r=.row 3∧O=[(3,.rowd 34 4 true (tmDs l))]):=by
 have hlen:=qaY l
 refine qI Tryz.func139 E Tryz.ntmps139 zL fun c hL hQ hDD=>(qd (qb (zX E (zK (qd (qb ?_))))));refine zX E (zK (qd (qd (qb (zX E (zK (qv (qac (l.length) (fun k=>k≤l.length) (fun k=>⟨[(0,.dat false 4 (tmDs l)),(3,.row 3),(4,iv (k:Int))],[(3,.rowd 34 4 true (tmDs (l.take k)))]⟩) zO ?_ (fun k hk hp=>?_)))))))))
 ·exact Sub.trans (qam (t:=3) (l:=3) 34 4 true E E) (qC (zC E (zC E (zC E SubT.nil))) (SubO.cons (qU E (by rfl)) SubO.nil) E E (noL' (noL hL) _))
 have hl2:(tmDs (l.take k)).length≤l.length:=by rw [qaY,List.length_take];omega
 refine qd (qd (qb (zX E (zX E (zA E (qu E qN E) (zA E (qj E E E E) (qc ?_)))))));refine qa (qo E (fun c0=>?_) (fun c0=>?_))
 ·simp only[↓cqA,cqB]at c0
  obtain ⟨u,hu⟩:=qM (l:=l) (k:=k) (by omega)
  have hum:=List.mem_of_getElem? hu
  refine qr (qa (qd (qv (qb (zX E (zX E (zX E ?_)))))));refine zA E (qp E qN E E zO (qbP hu)) (zA E (qD E qz E E) (qH (avs:=[_]) true E E E zD qch E E (hC u hum) E E (qt E E zD (qaj 17 E qN qaJ E E zD zD zD E E E) E (qbW E E zD (qaU 18 qgm E E E E E E E E (noL hL _) zO E) E ?_))))
  refine zX E (qc (qR (qa (qb (zX E (zA E (qO E E E zO) (zX E ?_)))))));refine zK ?_;refine ⟨?_,?_,?_⟩
  ·omega
  ·omega
  exact Sub.trans (qZ 18 3 (noL hL _) (noL hL _)) (qC (zC E (zC E (zC E SubT.nil))) (SubO.cons (qU E (by rw [qas hu,show tmDs (l.take k++[u])=tmDs (l.take k)++[tmD u] by rw [qeE,qeE,List.map_append];rfl];rfl)) SubO.nil) E E (noL' (noL hL) _))
 simp only[↓cqA,cqB]at c0
 refine qV (qq (qq (qad ?_)));refine qa (qd (qb (zX E (zX E (zK (qn ?_))))))
 change retQ _ _ _ _ _ _ _
 refine retO (O':=[(3,_)]) (.inl E) (qg E qh) (SubO.cons E SubO.nil) ?_ ?_ (noL' (noL hL) _) ?_
 ·rfl
 ·rfl
 exact ⟨rfl,by rw [List.take_of_length_le zO]⟩
theorem qgP:∀ (d:Nat) (t:Tm),dle d t→t.wf→PF 79 [tmA false t] (.agg (lift true (tmD t)))
 | 0,t,h,_=>h.elim
 | d+1,t,h,ht=>by
   have key:=qc0 3 77 (qoA t.args ht.2.2.2.1 (fun u hu=>qgP d u (h u hu) (Tm.wfs_mem ht.2.2.2.2 hu)))
   refine qI Tryz.func79 E Tryz.ntmps79 zL fun c hL hQ hDD=>(qd (qb (qt E E zD (q6 1 E E E) E (qt E E zD (qat 2 E qaJ E) E (zK (qd ?_))))));refine qb (zA E (qF E qz E E E E) ?_)
   refine qt E E zD (qat 3 E qaJ E) E (qT E E E qz E E E E E E E E E (zK (qd (qb (zA E (qe E qaa E) (zA E (qi E q9 E E E E E) ?_))))));refine qbW E E zD (qbn (avs:=[_]) true E qfM E E (key) (fun _=>rfl) E) E ?_
   refine zA E (qe E qaa E) (qT E E E q9 E E E E E E E E E (zK (qd (qbI (qaG (l:=77) E zD (noL hL _) E E) (qb (zA E (qF E qz E E E E) ?_))))));refine qT E E E qz E E E E E E E E E (zK (qn (zI hL (qaS qz E E E qh) ?_ ?_)))
   ·rfl
   exact ⟨rfl,rfl⟩
theorem qig (d:Nat)(b:Bd)(hd:dle d b.t)(hb:b.wf):PF 161 [.agg (lift false (bdD b))] (.agg (lift true (bdD b))):=by
 have hbt:=hb.2
 refine qI Tryz.func161 E Tryz.ntmps161 zL fun c hL hQ hDD=>(qd (qb (qt E E zD (q6 1 E E E) E (qt E E zD (qat 2 E qa7 E) E (zK (qd ?_))))));refine qb (zA E (qF E qa1 E E E E) ?_)
 refine qt E E zD (qat 3 E qa7 E) E (qT E E E qa1 E E E E E E E E E (zK (qd (qb (zA E (qe E qbc E) (zA E (qi E qz E E E E E) ?_))))));refine qH (avs:=[_]) true E E E zD qch E E (qgP d b.t hd hbt) E E ?_
 refine zA E (qe E qbc E) (qT E E E qz E E E E E E E E E (zK (qd (qb (zA E (qF E qa1 E E E E) (qT E E E qa1 E E E E E E E E E ?_))))));refine zK (qn (zI hL (qaS qa1 E E E qh) ?_ ?_))
 ·rfl
 exact ⟨rfl,rfl⟩
theorem qeU (d:Nat)(l:List Bd)(hl:l.length≤1000000000)(hd:∀ b∈l,dle d b.t)(hw:∀ b∈l,b.wf):AC Tryz.prog 104 [bdA l] [] (fun r O=>r=.row 3∧O=[(3,.rowd 143 5 true (bdDs l))]):=by
 have hlen:=qaR l
 refine qI Tryz.func104 E Tryz.ntmps104 zL fun c hL hQ hDD=>(qd (qb (zX E (zK (qd (qb ?_))))));refine zX E (zK (qd (qd (qb (zX E (zK (qv (qac (l.length) (fun k=>k≤l.length) (fun k=>⟨[(0,bdA l),(3,.row 3),(4,iv (k:Int))],[(3,.rowd 143 5 true (bdDs (l.take k)))]⟩) zO ?_ (fun k hk hp=>?_)))))))))
 ·exact Sub.trans (qam (t:=3) (l:=3) 143 5 true E E) (qC (zC E (zC E (zC E SubT.nil))) (SubO.cons (qU E (by rfl)) SubO.nil) E E (noL' (noL hL) _))
 have hl2:(bdDs (l.take k)).length≤l.length:=by rw [qaR,List.length_take];omega
 refine qd (qd (qb (zX E (zX E (zA E (qu E qA E) (zA E (qj E E E E) (qc ?_)))))));refine qa (qo E (fun c0=>?_) (fun c0=>?_))
 ·simp only[↓cqA,cqB]at c0
  obtain ⟨u,hu⟩:=qM (l:=l) (k:=k) (by omega)
  have hum:=List.mem_of_getElem? hu
  refine qr (qa (qd (qv (qb (zX E (zX E (zX E ?_)))))));refine zA E (qp E qA E E zO (qbj hu)) (zA E (qD E qa1 E E) (qH (avs:=[_]) true E E E zD qc7 E E (qig d u (hd u hum) (hw u hum)) E E (qt E E zD (qaj 17 E qA qa7 E E zD zD zD E E E) E (qbW E E zD (qaU 18 qbr E E E E E E E E (noL hL _) zO E) E ?_))))
  refine zX E (qc (qR (qa (qb (zX E (zA E (qO E E E zO) (zX E ?_)))))));refine zK ?_;refine ⟨?_,?_,?_⟩
  ·omega
  ·omega
  exact Sub.trans (qZ 18 3 (noL hL _) (noL hL _)) (qC (zC E (zC E (zC E SubT.nil))) (SubO.cons (qU E (by rw [qas hu,bdDs,bdDs,List.map_append];rfl)) SubO.nil) E E (noL' (noL hL) _))
 simp only[↓cqA,cqB]at c0
 refine qV (qq (qq (qad ?_)));refine qa (qd (qb (zX E (zX E (zK (qn ?_))))))
 change retQ _ _ _ _ _ _ _
 refine retO (O':=[(3,_)]) (.inl E) (qg E qh) (SubO.cons E SubO.nil) ?_ ?_ (noL' (noL hL) _) ?_
 ·rfl
 ·rfl
 exact ⟨rfl,by rw [List.take_of_length_le zO]⟩
def atB (s:ByteArray):List Bd→Int
 | []=>-1
 | b::l=>if b.name=s then 0 else if atB s l<0 then -1 else atB s l+1
theorem qqA (s:ByteArray):∀ (l:List Bd) (m:Nat) (x:Bd),l[m]?=some x→x.name=s→(∀ (j:Nat) (y:Bd),j<m→l[j]?=some y→y.name≠s)→atB s l=m
 | [],m,x,h,_,_=>by simp at h
 | k::l,0,x,h,hx,_=>by
   simp only [List.getElem?_cons_zero,Option.some.injEq] at h;subst h
   rw [atB,if_pos hx];rfl
 | k::l,m+1,x,h,hx,hj=>by
   have ih:=qqA s l m x (by simpa using h) hx (fun j y hjm hy=>hj (j+1) y (by omega) (by simpa using hy))
   rw [atB,if_neg (hj 0 k (by omega) (by simp)),ih,if_neg (by omega)];push_cast;rfl
theorem qqB (s:ByteArray):∀ (l:List Bd),(∀ (j:Nat) (y:Bd),l[j]?=some y→y.name≠s)→atB s l=-1
 | [],_=>rfl
 | k::l,h=>by
   have ih:=qqB s l (fun j y hy=>h (j+1) y (by simpa using hy))
   rw [atB,if_neg (h 0 k (by simp)),ih,if_pos (by omega)]
theorem qiY (s:ByteArray):∀ l:List Bd,(hasB l s=false∧atB s l=-1)∨hasB l s=true∧∃ (i:Nat) (x:Bd),atB s l=i∧l[i]?=some x∧x.name=s∧qeX l s=some x.t
 | []=>.inl ⟨rfl,rfl⟩
 | k::l=>by
   by_cases h:k.name=s
   ·exact .inr ⟨by simp [hasB,h],0,k,by rw [atB,if_pos h];rfl,rfl,h,by simp [qeX,List.find?_cons,h]⟩
   ·rcases qiY s l with ⟨h1,h2⟩|⟨h1,i,x,h2,h3,h4,h5⟩
    ·exact .inl ⟨by simp only [hasB,List.any_cons,h,decide_false,Bool.false_or];exact h1,by rw [atB,if_neg h,h2];rfl⟩
    ·refine .inr ⟨by simp only [hasB,List.any_cons,h,decide_false,Bool.false_or];exact h1,i+1,x,by rw [atB,if_neg h,h2,if_neg zO];push_cast;rfl,by simpa using h3,h4,?_⟩
     simp only [qeX,List.find?_cons,h,decide_false]
     exact h5
theorem qsG (s:ByteArray)(l:List Bd):(0≤atB s l)↔hasB l s=true:=by
 rcases qiY s l with ⟨h1,h2⟩|⟨h1,i,x,h2,_⟩
 ·rw [h1,h2];simp
 ·rw [h1,h2];simp
theorem qsU (l:List Bd)(s:ByteArray)(hl:l.length≤1000000000):PF 103 [bdA l,sv s] (iv (atB s l)):=by
 have hlen:=qaR l
 refine qI Tryz.func103 E Tryz.ntmps103 zL fun c hL hQ hDD=>(qd (qb (zX E (zK (qd (qd ?_))))));refine qb (zX E (qc (qa (qv (qac (l.length) (fun k=>k≤l.length∧∀ (j:Nat) (y:Bd),j<k→l[j]?=some y→y.name≠s) (fun k=>⟨[(0,bdA l),(1,sv s),(5,iv (k:Int))],[]⟩) (⟨by omega,fun j y hj=>absurd hj zO⟩) ?_ (fun k hk hp=>?_))))))
 ·exact zR hL (zC E (zC E (zC E SubT.nil))) SubO.nil
 refine qd (qd (qb (zX E (zX E (zA E (qu E qA E) (zA E (qj E E E E) (qc ?_)))))));refine qa (qo E (fun c0=>?_) (fun c0=>?_))
 ·simp only[↓cqA,cqB]at c0
  obtain ⟨u,hu⟩:=qM (l:=l) (k:=k) (by omega)
  refine qr (qa (qd (qv (qd (qb (zX E (zX E ?_)))))));refine zA E (qp E qA E E zO (qbj hu)) (zA E (qJ E qa5 E) (zA E (qW E qar E) (zX E (zA E (qcH E E E E) (zK (qo E (fun c1=>?_) (fun c1=>?_)))))))
  ·simp only[↓cqA,cqB]at c1
   refine qd (qb (zX E (zX E (zK (qn (qP (qm (qm (qP (qm (zI hL (qg E qh) ?_ ?_)))))))))))
   ·rfl
   refine ⟨qbx ?_,rfl⟩
   exact (qqA s l k u hu c1 hp.2).symm
  simp only[↓cqA,cqB]at c1
  refine qr (qR (qa (qb (zX E (zA E (qO E E E zO) (zX E (qc ?_)))))));refine qa ?_;refine ⟨?_,?_,?_⟩
  ·omega
  ·refine ⟨by omega,fun j y hj hy=>?_⟩
   by_cases hjk:j<k
   ·exact hp.2 j y hjk hy
   ·rw [show j=k by omega,hu] at hy;cases hy;exact c1
  exact zR hL (zC E (zC E (zC E SubT.nil))) SubO.nil
 simp only[↓cqA,cqB]at c0
 refine qV (qq (qq (qad ?_)));refine qa (qd (qb (zX E (zK (qn (zI hL (qg E qh) ?_ ?_))))))
 ·rfl
 refine ⟨qbx ?_,rfl⟩
 exact (qqB s l fun j y hy=>hp.2 j y (by have:=(List.getElem?_eq_some_iff.1 hy).1;omega) hy).symm
theorem qeD {α:Type}(f:α→Int)(m:Int)(hm:m<1048576):∀ (n:Int) (l:List α),(∀ t,t∈l→0≤f t)→0≤n→wgtL f n l≤m→n≤m∧∀ u∈l,f u≤m
 | n,[],_,_,h=>⟨by simpa [wgtL] using h,fun u hu=>by cases hu⟩
 | n,a::l,hf,hn,h=>by
   have h1:=qbJ f n (a::l) hf
   simp only [wgtL] at h
   rw [if_pos (by omega)] at h
   have h0:=hf a (by simp)
   obtain ⟨h2,h3⟩:=qeD f m hm (n+f a) l (fun t ht=>hf t (by simp [ht])) (by omega) h
   refine ⟨by omega,fun u hu=>?_⟩
   rcases List.mem_cons.1 hu with rfl|hu
   ·omega
   ·exact h3 u hu
theorem qmj:∀ (d:Nat) (t:Tm),wgt d t≤1048575→dle d t
 | 0,t,h=>by
   have h2:(1048576:Int)≤1048575:=h
   omega
 | d+1,t,h=>fun u hu=>by
   simp only [wgt] at h
   have:=(qeD (wgt d) 1048575 (by omega) _ t.args (fun u _=>qnm d u) (by omega) h).2 u hu
   exact qmj d u this
theorem qn5 {d:Nat}{a:Tm}(h:dle d a):eqT d a a=true:=(qgD d a a h).2 rfl
theorem qk0 (p:α→Bool){l:List α}{k:Nat}{u:α}(hu:l[k]?=some u):(l.take (k+1)).filter p=(l.take k).filter p++(if p u=true then [u] else []):=by
 rw [qas hu,List.filter_append]
 congr 1
 by_cases h:p u=true<;>simp [h]
theorem qls (p:α→Bool)(l:List α)(k:Nat):((l.take k).filter p).length≤k:=Nat.le_trans (List.length_filter_le _ _) (by simp;omega)
theorem qgh {β:Type}{g:α→β}{es:List α}{A:List (Option β)}(h:∀ (q:Nat) (x:α),es[q]?=some x→A[q]?=some (some (g x))):A=(es.map g).map some++A.drop es.length:=by
 apply List.ext_getElem?
 intro q
 by_cases hq:q<es.length
 ·rw [List.getElem?_append_left (by simpa using hq)]
  simp only [List.getElem?_map]
  rw [h q es[q] (List.getElem?_eq_getElem hq),List.getElem?_eq_getElem hq]
  rfl
 ·rw [List.getElem?_append_right (by simp;omega),List.getElem?_drop]
  simp only [List.length_map]
  congr 1;omega
theorem qhp {β:Type}(g:α→β)(es:List α)(junk:List (Option β)):∀ (q:Nat) (x:α),es[q]?=some x→((es.map g).map some++junk)[q]?=some (some (g x)):=fun q x h=>by
 have hq:=(List.getElem?_eq_some_iff.1 h).1
 rw [List.getElem?_append_left (by simpa using hq)]
 simp [h]
theorem qpM {P:Program}{c:Ctx}{N:Nat}{o:Oper}{σ:St}{need:List Nat}{v v':AV}{new:List (Nat×Ob)}(h:Stp P c N o σ need v new)(e:v=v'):Stp P c N o σ need v' new:=e▸h
theorem qmC (a b:List Bd)(ha:BOk a)(hb:BOk b):PF 105 [bdA a,bdA b] (.tup [.dat true 5 (bdDs (qdT a b)),iv (qgY a b)]):=by
 have hlen:=qaR b
 have hla:=qaR a
 have hla2:=ha.len
 have hlb2:=hb.len
 refine qh2 (Post:=fun r O=>(qdT a b=[]∧r=.tup [.imm (.slice none 0 0),iv (qgY a b)]∨r=.tup [.dat true 5 (bdDs (qdT a b)),iv (qgY a b)])∧O=[]) ?_ (fun r O' h=>by
  obtain ⟨⟨h1,rfl⟩|rfl,rfl⟩:=h
  ·exact ⟨_,.tup (.cons (.nil (f:=true) (k:=5)) (.cons .refl .nil)),by rw [h1];rfl,rfl⟩
  ·exact ⟨_,.refl,rfl,rfl⟩)
 refine qI Tryz.func105 E Tryz.ntmps105 zL fun c hL hQ hDD=>(qd (qb (zX E (zX E (zK (qd ?_))))));refine qb (zX E (qbW E E zD (qbn (avs:=[_]) true E qbO E E (qc0 3 77 (qeU 5 a zO (fun x hx=>qbN (ha.el x hx).2) (fun x hx=>(ha.el x hx).1))) (fun _=>rfl) E) E (zX E (qc ?_))))
 refine qa (qd (qd (qbI (qaG (l:=77) E zD (noL hL _) E E) (qb (zX E (zK ?_))))));refine qv (qac (b.length) (fun k=>k≤b.length∧∀ (j:Nat) (u:Bd),j<k→b[j]?=some u→qdF (qdY a (b.take j)) u=false) (fun k=>⟨[(1,bdA b),(6,.dat true 5 (bdDs (qdY a (b.take k)))),(7,iv (k:Int))],[]⟩) (⟨by omega,fun j u hj=>absurd hj zO⟩) ?_ (fun k hk hp=>?_))
 ·exact zR hL (zC E (zC E (zC E SubT.nil))) SubO.nil
 obtain ⟨⟨hr,hel⟩,hln⟩:=qm7 ⟨ha.ris,ha.el⟩ (b.take k) (fun u hu=>hb.el u (List.mem_of_mem_take hu))
 have hln2:(b.take k).length≤b.length:=by simp;omega
 have hlx:=qaR (qdY a (b.take k))
 generalize hX:qdY a (b.take k)=X at*
 refine qd (qd (qb (zX E (zX E (zA E (qu E qA E) (zA E (qj E E E E) (qc ?_)))))));refine qa (qo E (fun c0=>?_) (fun c0=>?_))
 ·simp only[↓cqA,cqB]at c0
  obtain ⟨u,hu⟩:=qM (l:=b) (k:=k) (by omega)
  have hum:=hb.el u (List.mem_of_getElem? hu)
  have hpl:=qgv X u.name
  have hpos:=qiy u.name X
  have hXs:qdY a (b.take (k+1))=qb3 X u:=by rw [qas hu,qma,hX]
  have hat:=qsG u.name X
  refine qr (qa (qd (qv (qd (qb (zX E (zX E ?_)))))));refine zX E (zA E (qp E qA E E zO (qbj hu)) (zA E (qJ E qa5 E) (zA E (qW E qar E) ?_)))
  refine qH (avs:=[_,_]) true E E E zD qfE E E (qsU X u.name zO) E E (zX E (zK (qd (qd (qb (zX E ?_))))));refine zA E (qj E E E E) (zK (qo E (fun c1=>?_) (fun c1=>?_)))
  ·simp only[↓cqA,cqB]at c1
   have hh:hasB X u.name=true:=hat.1 (by omega)
   obtain ⟨v,hv,hvn,hlk⟩:∃ x:Bd,X[(atB u.name X).toNat]?=some x∧x.name=u.name∧qeX X u.name=some x.t:=by
    rcases qiY u.name X with ⟨h1,_⟩|⟨_,i,x,h2,h3,h4,h5⟩
    ·rw [h1] at hh;cases hh
    ·exact ⟨x,by rw [h2];exact h3,h4,h5⟩
   have hvt:qe9 X u.name=v.t:=by rw [qe9,hlk];rfl
   have hvm:=hel v (List.mem_of_getElem? hv)
   have hlt:=(List.getElem?_eq_some_iff.1 hv).1
   have hst:qb3 X u=X:=by rw [qb3,if_pos hh]
   have hcz:=qge 5 v.t u.t (qbN hvm.2)
   refine qd (qd (qX 10 mixed E E E E (zU E (ql (.inl E) E) (zU E (ql (.inl E) E) (zU E (qp E qA E E zO (qbj hv)) (zU E (qJ E qbc E) (zU E (qD E qz E E) (zU E (ql (.inl E) E) (zU E (ql (.inl E) E) (zU E (qp E qA E E zO (qbj hu)) (zU E (qJ E qbc E) (zU E (qD E qz E E) ?_))))))))))))
   refine qaq ⟨rfl,rfl,?_⟩;refine qH (avs:=[_,_]) true E E E zD qbg E E (qeT 5 v.t u.t (qbN hvm.2) hvm.1.2 hum.1.2) E E (zA E (qaB E E) (zK (qo E (fun c2=>?_) (fun c2=>?_))))
   ·simp only[↓cqA,cqB]at c2
    refine qd (qb (zX E (zX E (zK (qn (qm (qm (qP (qm (qm (qP (qm (zI hL (qg E (qg E qh)) ?_ ?_)))))))))))))
    ·rfl
    have hbk:qft a b=false:=by
     have hne:¬ cmpT 5 v.t u.t=0:=fun h=>by have:=hcz.1 h;simp [this] at c2
     rw [qfs b a k hp.2,hX,qqt hu,qft]
     have:qdF X u=true:=by simp [qdF,hvt,hh,hne]
     rw [this];rfl
    exact ⟨.inl ⟨by rw [qdT,if_neg (by simp [hbk])],by rw [qgY,if_neg (by simp [hbk])];rfl⟩,rfl⟩
   simp only[↓cqA,cqB]at c2
   have hbad:qdF X u=false:=by
    have h1:eqT 5 v.t u.t=true:=by simpa using c2
    simp [qdF,hvt,hcz.2 h1]
   refine qr (qa (qV (qq (qad ?_))));refine qa (qb (zX E (zA E (qO E E E zO) (zX E (zK ?_)))));refine ⟨?_,?_,?_⟩
   ·omega
   ·refine ⟨by omega,fun j w hj hw=>?_⟩
    by_cases hjk:j<k
    ·exact hp.2 j w hjk hw
    ·rw [show j=k by omega] at hw ⊢
     rw [hu] at hw;cases hw
     rw [hX];exact hbad
   exact zR hL (zC E (SubT.cons (qaw E (by rw [hXs,hst];try (rw [← hsp];exact congrArg (AV.dat true 5) (show bdDs (X.take s)++[bdD u]++bdDs (X.drop s)=bdDs (ins X s u) by simp [ins,bdDs])))) (zC E SubT.nil))) SubO.nil
  simp only[↓cqA,cqB]at c1
  have hh:hasB X u.name=false:=by
   cases hc:hasB X u.name with
   | false=>rfl
   | true=>have:=hat.2 hc;omega
  have hbad:qdF X u=false:=by simp [qdF,hh]
  have hst:qb3 X u=ins X (posB X u.name) u:=by rw [qb3,if_neg (by simp [hh])]
  refine qr (qa (qd (qb (zX E (zK (qd ?_))))));refine qv (qac (posB X u.name) (fun s=>s≤posB X u.name) (fun s=>⟨[(1,bdA b),(6,.dat true 5 (bdDs X)),(7,iv (k:Int)),(8,iv (s:Int))],[]⟩) zO ?_ (fun s hs hps=>?_))
  ·exact zR hL (zC E (zC E (zC E (zC E SubT.nil)))) SubO.nil
  refine qd (qd ?_)
  rcases Bool.eq_false_or_eq_true (decide ((s:Int)<((bdDs X).length:Int))) with l41|l41
  ·have m41:=l41
   simp only[↓cqA,cqB]at m41
   obtain ⟨v,hv⟩:=qM (l:=X) (k:=s) (by omega)
   have hpt:=fun h=>hpos.1 s v h hv
   refine qX 15 mixed E E E E (zU E (ql (.inl E) E) (zU E (ql (.inl E) E) (zU E (qu E qA E) (zU E (qj (r:=.bool true) E E E (congrArg (fun b=>some (Value.bool b)) l41)) (zU E (ql (.inl E) E) (zQ E (ql (.inl E) E) (zQ E (ql (.inl E) E) (zQ E (qp E qA E E zO (qbj hv)) ?_))))))))
   refine zQ E (qJ E qa5 E) (zQ E (qW E qar E) (zQ E (ql (.inl E) E) (zQ E (ql (.inl E) E) (zQ E (qp E qA E E zO (qbj hu)) ?_))))
   refine zQ E (qJ E qa5 E) (zQ E (qW E qar E) (qaq ⟨rfl,rfl,?_⟩));refine zZ E (qcH E E E E) (zA E (qk E E E) (zK (qo E (fun c3=>?_) (fun c3=>?_))))
   ·have hsp:s<posB X u.name:=by
     rcases Nat.lt_or_ge s (posB X u.name) with h|h
     ·exact h
     ·have h2:posB X u.name=s:=by omega
      have h3:=hpos.2 v (by rw [h2];exact hv)
      rw [show ltS v.name u.name=true from c3] at h3;cases h3
    refine qr (qa (qv (qb (zX E (zA E (qO E E E zO) (zX E (qc ?_)))))));refine qR (qa ?_);refine ⟨?_,?_,?_⟩
    ·omega
    ·omega
    exact zR hL (zC E (zC E (zC E (zC E SubT.nil)))) SubO.nil
   have hsp:s=posB X u.name:=by
    rcases Nat.lt_or_ge s (posB X u.name) with h|h
    ·have h3:=hpt h
     rw [show ltS v.name u.name=false from c3] at h3;cases h3
    ·omega
   refine qV (qq (qq (qad ?_)));refine qa ?_
   have htl:(bdDs (X.take s)).length=s:=by rw [qaR];simp;omega
   have hdl:(bdDs (X.drop s)).length≤X.length:=by rw [qaR];simp
   refine qX 14 mixed E E E E (zU E (ql (.inl E) E) (zU E (ql (.inl E) E) (zU E (qpM (v':=.dat true 5 (bdDs (X.take s))) (qpL E qA E E zO zO) (by simp [bdDs])) ?_)))
   refine qgO E E zD (qbn (avs:=[_]) true E qbO E E (qc0 3 77 (qeU 5 (X.take s) (by simp;omega) (fun x hx=>qbN (hel x (List.mem_of_mem_take hx)).2) (fun x hx=>(hel x (List.mem_of_mem_take hx)).1))) (fun _=>rfl) E) ?_;refine zU E (ql (.inl E) E) ?_;refine zU E (ql (.inl E) E) ?_;refine zU E (qp E qA E E zO (qbj hu)) ?_
   refine zU E (qD E qa1 E E) ?_;refine zU E (qai (avs:=[_]) true E qc7 E E (qig 5 u (qbN hum.2) hum.1) (fun _=>rfl) E) ?_;refine qhr E zD (.run E (qaj 66 E qA qa7 E E zD zD zD E E E)) ?_;refine qgO E E zD (qaU 67 qbr E E E E E E E E (noL hL _) (by rw [htl];omega) E) ?_
   refine zU E (ql (.inl E) E) ?_;refine zU E (ql (.inl E) E) ?_;refine zU E (qpM (v':=.dat true 5 (bdDs (X.drop s))) (qpK E qA E E zO zO) (by simp [bdDs])) ?_;refine qaq ⟨rfl,rfl,?_⟩;refine qbW E E zD (qd5 71 qbr E E E E E (noL hL _) (fun d hd=>by obtain ⟨x,_,rfl⟩:=List.mem_map.1 hd;rfl) (by simp only [List.length_append,List.length_singleton,htl];omega) E) E ?_
   refine qab (qaG (l:=71) E zD (noL hL _) E E) (zX E (qc (qR (qa (qb (zX E (zA E (qO E E E zO) ?_)))))));refine zX E (zK ?_);refine ⟨?_,?_,?_⟩
   ·omega
   ·refine ⟨by omega,fun j w hj hw=>?_⟩
    by_cases hjk:j<k
    ·exact hp.2 j w hjk hw
    ·rw [show j=k by omega] at hw ⊢
     rw [hu] at hw;cases hw
     rw [hX];exact hbad
   exact zR hL (zC E (SubT.cons (qaw E (by rw [hXs,hst];try (rw [← hsp];exact congrArg (AV.dat true 5) (show bdDs (X.take s)++[bdD u]++bdDs (X.drop s)=bdDs (ins X s u) by simp [ins,bdDs])))) (zC E SubT.nil))) SubO.nil
  have m41:=l41
  simp only[↓cqA,cqB]at m41
  have hsp:s=posB X u.name:=by omega
  refine qX 15 mixed E E E E (zU E (ql (.inl E) E) (zU E (ql (.inl E) E) (zU E (qu E qA E) (zU E (qj (r:=.bool false) E E E (congrArg (fun b=>some (Value.bool b)) l41)) (zU E (ql (.inl E) E) (qf E zD (.skip rfl E E zD zD) (qf E zD (.skip rfl E E zD zD) ?_)))))))
  refine qf E zD (.skip rfl E E zD zD) (qf E zD (.skip rfl E E zD zD) (qf E zD (.skip rfl E E zD zD) (qf E zD (.skip rfl E E zD zD) (qf E zD (.skip rfl E E zD zD) ?_))))
  refine qf E zD (.skip rfl E E zD zD) (qf E zD (.skip rfl E E zD zD) (qf E zD (.skip rfl E E zD zD) (qaq ⟨rfl,rfl,?_⟩)));refine zY E (zA E (qk E E E) (zK (qaA E (qV (qq (qq (qad ?_)))))));refine qa ?_
  have htl:(bdDs (X.take s)).length=s:=by rw [qaR];simp;omega
  have hdl:(bdDs (X.drop s)).length≤X.length:=by rw [qaR];simp
  refine qX 14 mixed E E E E (zU E (ql (.inl E) E) (zU E (ql (.inl E) E) (zU E (qpM (v':=.dat true 5 (bdDs (X.take s))) (qpL E qA E E zO zO) (by simp [bdDs])) ?_)))
  refine qgO E E zD (qbn (avs:=[_]) true E qbO E E (qc0 3 77 (qeU 5 (X.take s) (by simp;omega) (fun x hx=>qbN (hel x (List.mem_of_mem_take hx)).2) (fun x hx=>(hel x (List.mem_of_mem_take hx)).1))) (fun _=>rfl) E) ?_;refine zU E (ql (.inl E) E) ?_;refine zU E (ql (.inl E) E) ?_;refine zU E (qp E qA E E zO (qbj hu)) ?_
  refine zU E (qD E qa1 E E) ?_;refine zU E (qai (avs:=[_]) true E qc7 E E (qig 5 u (qbN hum.2) hum.1) (fun _=>rfl) E) ?_;refine qhr E zD (.run E (qaj 66 E qA qa7 E E zD zD zD E E E)) ?_;refine qgO E E zD (qaU 67 qbr E E E E E E E E (noL hL _) (by rw [htl];omega) E) ?_
  refine zU E (ql (.inl E) E) ?_;refine zU E (ql (.inl E) E) ?_;refine zU E (qpM (v':=.dat true 5 (bdDs (X.drop s))) (qpK E qA E E zO zO) (by simp [bdDs])) ?_;refine qaq ⟨rfl,rfl,?_⟩;refine qbW E E zD (qd5 71 qbr E E E E E (noL hL _) (fun d hd=>by obtain ⟨x,_,rfl⟩:=List.mem_map.1 hd;rfl) (by simp only [List.length_append,List.length_singleton,htl];omega) E) E ?_
  refine qab (qaG (l:=71) E zD (noL hL _) E E) (zX E (qc (qR (qa (qb (zX E (zA E (qO E E E zO) ?_)))))));refine zX E (zK ?_);refine ⟨?_,?_,?_⟩
  ·omega
  ·refine ⟨by omega,fun j w hj hw=>?_⟩
   by_cases hjk:j<k
   ·exact hp.2 j w hjk hw
   ·rw [show j=k by omega] at hw ⊢
    rw [hu] at hw;cases hw
    rw [hX];exact hbad
  exact zR hL (zC E (SubT.cons (qaw E (by rw [hXs,hst];try (rw [← hsp];exact congrArg (AV.dat true 5) (show bdDs (X.take s)++[bdD u]++bdDs (X.drop s)=bdDs (ins X s u) by simp [ins,bdDs])))) (zC E SubT.nil))) SubO.nil
 simp only[↓cqA,cqB]at c0
 have hk2:b.take k=b:=List.take_of_length_le (by omega)
 rw [hk2] at hX
 have hgo:qft a b=true:=by rw [qfs b a k hp.2,List.drop_eq_nil_of_le (by omega)];rfl
 refine qV (qq (qq (qad ?_)));refine qa (qd (qd (qb (zX E (zA E (qu E qA E) (zA E (qj E E E E) (qc ?_)))))));refine qa (qo E (fun c4=>?_) (fun c4=>?_))
 ·simp only[↓cqA,cqB]at c4
  refine qd (qb (zX E (zX E (zK (qn (qm (zI hL (qg E (qg E qh)) ?_ ?_)))))))
  ·rfl
  exact ⟨.inl ⟨by rw [qdT,if_neg (by rw [hX];omega)],by rw [qgY,if_pos hgo,if_neg (by rw [hX];omega)];rfl⟩,rfl⟩
 simp only[↓cqA,cqB]at c4
 refine qr (qa (qd (qb (zX E (zX E (zX E (qc ?_)))))));refine qa (qn (zI hL (qg E (qg E qh)) ?_ ?_))
 ·rfl
 exact ⟨.inr (by rw [qdT,qgY,if_pos ⟨hgo,by rw [hX];omega⟩,if_pos hgo,if_pos (by rw [hX];omega),hX];rfl),rfl⟩
end Go.Proofs.YtpgceiijoedppaaGreat