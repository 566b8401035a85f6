/- Part 19 of the proof: Fi, Fj, Fl, Fm, Fn. -/
import Derived.Test.YtpgceiijoedppaaGreatC18
set_option linter.unusedVariables false
set_option linter.unusedSimpArgs false
set_option maxRecDepth 8000
namespace Go.Proofs.YtpgceiijoedppaaGreat
open Go
theorem qbJ {α:Type}(f:α→Int):∀ (n:Int) (l:List α),(∀ t,t∈l→0≤f t)→n≤wgtL f n l
 | n,[],_=>by simp [wgtL]
 | n,a::l,h=>by
   simp only [wgtL]
   split
   ·have:=qbJ f (n+f a) l (fun t ht=>h t (by simp [ht]))
    have:=h a (by simp);omega
   ·omega
def wT (t:Tm):Int:=wgt 30 t
theorem qdI (t:Tm)(h:t.wf):0≤wT t∧wT t≤4362862138900000:=by
 have h1:=qnm 30 t
 have h2:=qpA 30 t h
 simp only [wT];omega
theorem qeq (u:Tm)(h:u.wf):PF 93 [tmA false u,iv 30] (iv (wT u)):=qnb 30 (by omega) _ rfl u h
def wB (b:Bd):Int:=b.name.size+wT b.t
def wBs (l:List Bd):Int:=wgtL wB l.length l
theorem qpE (b:Bd)(h:b.wf):0≤wB b∧wB b≤4600000000000000:=by
 have h1:=qdI b.t h.2
 have h2:=h.1
 simp only [wB];omega
theorem qnp (l:List Bd)(hl:qbt l)(hw:∀ g∈l,g.wf):0≤wBs l∧wBs l≤4800000000000000:=by
 have hF:∀ u,u∈l→0≤wB u∧wB u≤4600000000000000:=fun u hu=>qpE u (hw u hu)
 have h1:=qfF wB 4600000000000000 (by omega) l.length l (fun u hu=>(hF u hu).2) (by simp only [qbt] at hl;omega)
 have h2:=qbJ wB l.length l (fun u hu=>(hF u hu).1)
 simp only [wBs];omega
theorem qlF (l:List Bd)(hl:qbt l)(hw:∀ g∈l,g.wf):PF 134 [.dat false 5 (bdDs l)] (iv (wBs l)):=by
 have hlen:=qaR l
 have hF:∀ u,u∈l→0≤wB u∧wB u≤4600000000000000:=fun u hu=>qpE u (hw u hu)
 simp only [qbt] at hl
 refine qI Tryz.func134 E Tryz.ntmps134 zL fun c hL hQ hDD=>(qd (qb (zX E (zK (qd (qb ?_))))));refine zX E (zA E (qu E qA E) ?_)
 refine zX E (zK (qd (qd (qb (zX E (qc ?_))))));refine qa (qv (qac (l.length) (fun k=>k≤l.length∧∀ j,j<k→wgtL wB l.length (l.take j)<1048576) (fun k=>⟨[(0,.dat false 5 (bdDs l)),(3,iv (wgtL wB l.length (l.take k))),(4,iv (k:Int))],[]⟩) (⟨by omega,fun j hj=>absurd hj zO⟩) ?_ (fun k hk hp=>?_)))
 ·exact zR hL (zC E (SubT.cons (qaw E (by exact qan (by simp only [List.take_zero,wgtL];omega))) (zC E SubT.nil))) SubO.nil
 have hwk:=qfF wB 4600000000000000 (by omega) l.length (l.take k) (fun u hu=>(hF u (List.mem_of_mem_take hu)).2) (by omega)
 have hw0:=qbJ wB l.length (l.take k) (fun u hu=>(hF u (List.mem_of_mem_take hu)).1)
 refine qd (qd (qb (zX E (zX E (zA E (qu E qA E) (zA E (qj E E E E) (zX E ?_)))))));refine qE 11 E (fun g11=>?_) (fun g11=>?_)
 ·simp only[↓cqA,cqB]at g11
  obtain ⟨u,hu⟩:=qM (l:=l) (k:=k) (by omega)
  have hum:=List.mem_of_getElem? hu
  have huw:=hF u hum
  have hul:=(hw u hum).1
  have hur:=(hw u hum).2
  have hwg:wB u=u.name.size+wT u.t:=rfl
  have hur2:=qdI u.t hur
  refine zZ E (ql (.inl E) E) (zZ E (qj E E E E) (zA E (qk E E E) (zK (qo E (fun c0=>?_) (fun c0=>?_)))))
  ·simp only[↓cqA,cqB]at c0
   refine qr (qa (qd (qv (qX 14 mixed E E E E (zU E (ql (.inl E) E) (zU E (ql (.inl E) E) (zU E (ql (.inl E) E) ?_)))))));refine zU E (qp E qA E E zO (qbj hu)) (zU E (qJ E qa5 E) (zU E (qW E qar E) (zU E (qdc E qbA E) (zU E (qO E E E zO) (zU E (ql (.inl E) E) (zU E (ql (.inl E) E) (zU E (qp E qA E E zO (qbj hu)) (zU E (qJ E qbc E) ?_))))))))
   refine zU E (qD E qz E E) (zU E (qai (avs:=[_,_]) true E qbG E E (qeq u.t hur) (fun _=>rfl) E) (qaq ⟨rfl,rfl,?_⟩));refine zA E (qO E E E zO) (zX E (qc (qR (qa (qb (zX E (zA E (qO E E E zO) (zX E (qc ?_)))))))))
   have hb:=qeL wB l.length (l.take k) u (fun j hj=>by
    by_cases hjk:j<k
    ·have:=hp.2 j hjk;rwa [List.take_take,Nat.min_eq_left (by omega)]
    ·rw [List.take_of_length_le (by simp;omega)];omega)
   rw [← qas hu] at hb
   refine qa ?_;refine ⟨?_,?_,?_⟩
   ·omega
   ·refine ⟨by omega,fun j hj=>?_⟩
    by_cases hjk:j<k
    ·exact hp.2 j hjk
    ·rw [show j=k by omega];omega
   exact zR hL (zC E (SubT.cons (qaw E (by exact qan (by rw [hb];try omega))) (zC E SubT.nil))) SubO.nil
  simp only[↓cqA,cqB]at c0
  have hfin:wgtL wB l.length (l.take k)=wgtL wB l.length l:=((qea wB _ _ k hp.1 hp.2).trans (qeK _ _ _ (by omega))).symm
  refine qV (qq (qq (qad ?_)));refine qa (qd (qb (zX E (zX E (zK (qn (zI hL (qg E qh) ?_ ?_)))))))
  ·rfl
  exact ⟨qbx hfin,rfl⟩
 simp only[↓cqA,cqB]at g11
 have hfin:wgtL wB l.length (l.take k)=wgtL wB l.length l:=by rw [List.take_of_length_le (by omega)]
 refine zY E (zY E (zA E (qk E E E) (zK (qaA E (qV (qq (qq (qad ?_))))))));refine qa (qd (qb (zX E (zX E (zK (qn (zI hL (qg E qh) ?_ ?_)))))))
 ·rfl
 exact ⟨qbx hfin,rfl⟩
def knownC (kind:Int)(a b:Tm):Bool:=
 if kind=1∨kind=2 then (if a.kind≠2∨b.kind≠2 then false else decide (cmpT 5 a b<0∨(kind=2∧cmpT 5 a b=0)))
 else (decide (cmpT 5 a b=0)==decide (kind=3))
def guardE (kind:Int)(a b:Tm):Int:=
 if kind<1∨4<kind∨mayT a=false∨mayT b=false∨qfJ a=false∨qfJ b=false then 1
 else if kind≤2∧(a.kind≠2∨b.kind≠2) then 3 else 0
def guardC (kind:Int)(a b:Tm):Bool:=guardE kind a b==0&&knownC kind a b
theorem qc8 (a b:Int):cmpI a b=0↔a=b:=by
 simp only [cmpI];split
 ·constructor
  ·intro h;cases h
  ·intro h;omega
 ·split
  ·constructor
   ·intro h;cases h
   ·intro h;omega
  ·constructor
   ·intro _;omega
   ·intro _;rfl
theorem qgf (a b:ByteArray):cmpS a b=0↔a=b:=by
 rw [qhj]
 split
 ·rename_i h
  constructor
  ·intro h;cases h
  ·rintro rfl
   have irr:∀ l:List UInt8,Op.bytesLess l l=false:=fun l=>by
    induction l with
    | nil=>rfl
    | cons x l ih=>simp [Op.bytesLess,ih]
   rw [ltS,irr] at h;cases h
 ·split
  ·rename_i h;simp [h]
  ·rename_i h;simp [h]
theorem qoi (f:Tm→Tm→Int)(g:Tm→Tm→Bool):∀ (l m:List Tm),(∀ u v,u∈l→(f u v=0↔g u v=true))→(cmpL f l m=0↔eqL g l m=true)
 | [],[],_=>by simp [cmpL,eqL]
 | [],_::_,_=>by simp [cmpL,eqL]
 | _::_,[],_=>by simp [cmpL,eqL]
 | a::l,b::m,h=>by
   have h1:=h a b (by simp)
   have ih:=qoi f g l m (fun u v hu=>h u v (by simp [hu]))
   simp only [cmpL,eqL,Bool.and_eq_true,← h1]
   split
   ·rename_i h0;simp [h0,ih]
   ·rename_i h0;simp [h0]
theorem orL_zero (a b c d:Int):orL [a,b,c,d]=0↔a=0∧b=0∧c=0∧d=0:=by
 simp only [orL];split
 ·split
  ·split
   ·split
    ·simp_all
    ·simp_all
   ·simp_all
  ·simp_all
 ·simp_all
theorem qge:∀ (d:Nat) (a b:Tm),dle d a→(cmpT d a b=0↔eqT d a b=true)
 | 0,a,b,h=>h.elim
 | d+1,a,b,h=>by
   have hL:=qoi (cmpT d) (eqT d) a.args b.args (fun u v hu=>qge d u v (h u hu))
   have hz:=orL_zero (cmpI a.kind b.kind) (cmpI a.n b.n) (cmpI a.args.length b.args.length) (cmpS a.name b.name)
   simp only [cmpT,eqT,Bool.and_eq_true,decide_eq_true_eq,Array.toList_inj,qhD]
   split
   ·rename_i h0
    obtain ⟨h1,h2,h3,h4⟩:=hz.1 h0
    rw [qc8] at h1 h2
    rw [qgf] at h4
    rw [hL]
    exact ⟨fun h=>⟨⟨⟨h1,h4⟩,h2⟩,h⟩,fun h=>h.2⟩
   ·rename_i h0
    constructor
    ·intro h;exact absurd h h0
    ·rintro ⟨⟨⟨h1,h4⟩,h2⟩,h3⟩
     exfalso
     apply h0
     rw [hz,qc8,qc8,qc8,qgf]
     refine ⟨h1,h2,?_,h4⟩
     by_cases hl:a.args.length=b.args.length
     ·rw [hl]
     ·rw [qpe _ hl] at h3;cases h3
abbrev spA (f:Ft):AV:=.agg (lift false (spD f))
def qlp (f:Ft):Bool:=decide (-1073741824≤f.fr∧f.fr≤f.to∧f.to≤1073741824)
theorem qqQ (f:Ft):PF 140 [spA f] (bv (qlp f)):=by
 refine qI Tryz.func140 E Tryz.ntmps140 zL fun c hL hQ hDD=>(qd (qb (qt E E zD (q6 1 E E E) E (zX E (zK (qd ?_))))));refine qb (zA E (qe E qal E) (zA E (qi E qQ E E E E E) (zA E (qj E E E E) (zX E (qE 6 E (fun g6=>?_) (fun g6=>?_))))))
 ·simp only[↓cqA,cqB]at g6
  refine zZ E (qe E qal E) (zZ E (qi E qQ E E E E E) (zZ E (qe E qak E) (zZ E (qi E qQ E E E E E) (zZ E (qj E E E E) (zA E (qk E E E) (zX E (qE 13 E (fun g13=>?_) (fun g13=>?_))))))))
  ·simp only[↓cqA,cqB]at g13
   refine zZ E (qe E qak E) (zZ E (qi E qQ E E E E E) (zZ E (qj E E E E) (zA E (qk E E E) (zX E (zK (qn (zI hL (qg E qh) ?_ ?_)))))))
   ·rfl
   refine ⟨q7 ?_,rfl⟩
   rw [Bool.eq_iff_iff];simp [qlp];try omega
  simp only[↓cqA,cqB]at g13
  refine zY E (zY E (zY E (zA E (qk E E E) (zX E (zK (qn (zI hL (qg E qh) ?_ ?_)))))))
  ·rfl
  refine ⟨q7 ?_,rfl⟩
  rw [Bool.eq_iff_iff];simp [qlp];try omega
 simp only[↓cqA,cqB]at g6
 refine zY E (zY E (zY E (zY E (zY E (zA E (qk E E E) ?_)))))
 refine zX E (zY E (zY E (zY E (zA E (qk E E E) (zX E (zK ?_))))));refine qn (zI hL (qg E qh) ?_ ?_)
 ·rfl
 refine ⟨q7 ?_,rfl⟩
 rw [Bool.eq_iff_iff];simp [qlp];try omega
theorem rSpan_ok (f:Ft):PF 99 [spA f] (bv (qlp f)):=by
 refine qI Tryz.func99 E Tryz.ntmps99 zL fun c hL hQ hDD=>(qd (qb (qt E E zD (q6 1 E E E) E (zX E (zK (qd ?_))))));refine qb (zA E (qe E qal E) (zA E (qi E qQ E E E E E) (zA E (qj E E E E) (zX E (qE 6 E (fun g6=>?_) (fun g6=>?_))))))
 ·simp only[↓cqA,cqB]at g6
  refine zZ E (qe E qal E) (zZ E (qi E qQ E E E E E) (zZ E (qe E qak E) (zZ E (qi E qQ E E E E E) (zZ E (qj E E E E) (zA E (qk E E E) (zX E (qE 13 E (fun g13=>?_) (fun g13=>?_))))))))
  ·simp only[↓cqA,cqB]at g13
   refine zZ E (qe E qak E) (zZ E (qi E qQ E E E E E) (zZ E (qj E E E E) (zA E (qk E E E) (zX E (zK (qn (zI hL (qg E qh) ?_ ?_)))))))
   ·rfl
   refine ⟨q7 ?_,rfl⟩
   rw [Bool.eq_iff_iff];simp [qlp];try omega
  simp only[↓cqA,cqB]at g13
  refine zY E (zY E (zY E (zA E (qk E E E) (zX E (zK (qn (zI hL (qg E qh) ?_ ?_)))))))
  ·rfl
  refine ⟨q7 ?_,rfl⟩
  rw [Bool.eq_iff_iff];simp [qlp];try omega
 simp only[↓cqA,cqB]at g6
 refine zY E (zY E (zY E (zY E (zY E (zA E (qk E E E) ?_)))))
 refine zX E (zY E (zY E (zY E (zA E (qk E E E) (zX E (zK ?_))))));refine qn (zI hL (qg E qh) ?_ ?_)
 ·rfl
 refine ⟨q7 ?_,rfl⟩
 rw [Bool.eq_iff_iff];simp [qlp];try omega
def qer (f:Ft):Bool:=decide (f.t.kind=3)&&mayT f.t&&qfJ f.t&&qlp f
theorem qf8 (f:Ft)(hf:f.wf):PF 80 [ftA f] (bv (qer f)):=by
 have ht:=hf.1
 refine qI Tryz.func80 E Tryz.ntmps80 zL fun c hL hQ hDD=>(qd (qb (qt E E zD (q6 1 E E E) E (zX E (zK (qd ?_))))));refine qb (zA E (qe E qbh E) (zA E (qe E qaL E) (zA E (qi E qQ E E E E E) (zA E (qj E E E E) (zX E (qE 7 E (fun g7=>?_) (fun g7=>?_)))))))
 ·simp only[↓cqA,cqB]at g7
  refine zZ E (qe E qbh E) (zZ E (qi E qz E E E E E) (zZ E (qai (avs:=[_]) true E qic E E (qsQ f.t ht) (fun _=>rfl) E) (zA E (qk E E E) (zX E (qE 12 E (fun g12=>?_) (fun g12=>?_))))))
  ·refine zZ E (qe E qbh E) (zZ E (qi E qz E E E E E) (zZ E (qai (avs:=[_]) true E qrc E E (Is_ok f.t ht (by assumption)) (fun _=>rfl) E) (zA E (qk E E E) (zX E (qE 17 E (fun g17=>?_) (fun g17=>?_))))))
   ·refine zZ E (qe E qct E) (zZ E (qi E qav E E E E E) (zZ E (qai (avs:=[_]) true E qpg E E (qqQ f) (fun _=>rfl) E) (zA E (qk E E E) (zX E (zK (qn (zI hL (qg E qh) ?_ ?_)))))))
    ·rfl
    refine ⟨q7 ?_,rfl⟩
    simp_all [qer]
   refine zY E (zY E (zY E (zA E (qk E E E) (zX E (zK (qn (zI hL (qg E qh) ?_ ?_)))))))
   ·rfl
   refine ⟨q7 ?_,rfl⟩
   simp_all [qer]
  refine zY E (zY E (zY E (zA E (qk E E E) (zX E (zY E (zY E (zY E (zA E (qk E E E) (zX E (zK (qn (zI hL (qg E qh) ?_ ?_))))))))))))
  ·rfl
  refine ⟨q7 ?_,rfl⟩
  simp_all [qer]
 simp only[↓cqA,cqB]at g7
 refine zY E (zY E (zY E (zA E (qk E E E) (zX E (zY E (zY E (zY E (zA E (qk E E E) (zX E (zY E (zY E (zY E (zA E (qk E E E) (zX E (zK (qn (zI hL (qg E qh) ?_ ?_)))))))))))))))))
 ·rfl
 refine ⟨q7 ?_,rfl⟩
 simp_all [qer]
theorem qiw (f:Ft)(hf:f.wf):PF 57 [ftA f] (bv (qer f)):=by
 have ht:=hf.1
 refine qI Tryz.func57 E Tryz.ntmps57 zL fun c hL hQ hDD=>(qd (qb (qt E E zD (q6 1 E E E) E (zX E (zK (qd ?_))))));refine qb (zA E (qe E qbh E) (zA E (qe E qaL E) (zA E (qi E qQ E E E E E) (zA E (qj E E E E) (zX E (qE 7 E (fun g7=>?_) (fun g7=>?_)))))))
 ·simp only[↓cqA,cqB]at g7
  refine zZ E (qe E qbh E) (zZ E (qi E qz E E E E E) (zZ E (qai (avs:=[_]) true E qe3 E E (qpW f.t ht) (fun _=>rfl) E) (zA E (qk E E E) (zX E (qE 12 E (fun g12=>?_) (fun g12=>?_))))))
  ·refine zZ E (qe E qbh E) (zZ E (qi E qz E E E E E) (zZ E (qai (avs:=[_]) true E qgT E E (qqT f.t ht (by assumption)) (fun _=>rfl) E) (zA E (qk E E E) (zX E (qE 17 E (fun g17=>?_) (fun g17=>?_))))))
   ·refine zZ E (qe E qct E) (zZ E (qi E qav E E E E E) (zZ E (qai (avs:=[_]) true E qhM E E (rSpan_ok f) (fun _=>rfl) E) (zA E (qk E E E) (zX E (zK (qn (zI hL (qg E qh) ?_ ?_)))))))
    ·rfl
    refine ⟨q7 ?_,rfl⟩
    simp_all [qer]
   refine zY E (zY E (zY E (zA E (qk E E E) (zX E (zK (qn (zI hL (qg E qh) ?_ ?_)))))))
   ·rfl
   refine ⟨q7 ?_,rfl⟩
   simp_all [qer]
  refine zY E (zY E (zY E (zA E (qk E E E) (zX E (zY E (zY E (zY E (zA E (qk E E E) (zX E (zK (qn (zI hL (qg E qh) ?_ ?_))))))))))))
  ·rfl
  refine ⟨q7 ?_,rfl⟩
  simp_all [qer]
 simp only[↓cqA,cqB]at g7
 refine zY E (zY E (zY E (zA E (qk E E E) (zX E (zY E (zY E (zY E (zA E (qk E E E) (zX E (zY E (zY E (zY E (zA E (qk E E E) (zX E (zK (qn (zI hL (qg E qh) ?_ ?_)))))))))))))))))
 ·rfl
 refine ⟨q7 ?_,rfl⟩
 simp_all [qer]
def cmpF (a b:Ft):Int:=orL [cmpT 5 a.t b.t,cmpI a.fr b.fr,cmpI a.to b.to]
theorem qcV {f:Ft}(h:qer f=true):mayT f.t=true:=by
 simp only [qer,Bool.and_eq_true] at h;exact h.1.1.2
def qfu (g:ByteArray→Tm):Nat→Tm→Tm
 | 0,t=>t
 | d+1,t=>if t.kind=1 then g t.name else ⟨t.kind,t.name,t.n,t.args.map (qfu g d)⟩
def qlm (l:List Tm):List (List D):=l.map tmD
theorem qow (g:ByteArray→Tm)(fb:FuncId)(hen:qY Tryz.prog fb)(hby:∀ s,PF fb [sv s] (.agg (lift true (tmD (g s))))):∀ (d:Nat) (t:Tm),dle d t→t.wf→PF 187 [tmA false t,.fn fb []] (.agg (lift true (tmD (qfu g d t))))
 | 0,t,h,_=>h.elim
 | d+1,t,h,ht=>by
   have hlen:=qaY t.args
   have hal:=ht.2.2.2.1
   refine qI Tryz.func187 E Tryz.ntmps187 zL fun c hL hQ hDD=>(qd (qb (qt E E zD (q6 2 E E E) E (qt E E zD (qat 4 E qaJ E) E (zK (qd ?_))))));refine qd (qb (zA E (qe E qaL E) (zA E (qi E qQ E E E E E) (zA E (qj E E E E) (zK (qo E (fun c0=>?_) (fun c0=>?_)))))))
   ·simp only[↓cqA,cqB]at c0
    refine qd (qb (zX E (zA E (qe E qay E) (zA E (qi E qar E E E E E) (qH (avs:=[_]) true E E E zD hen E E (hby t.name) E E (qT E E E qz E E E E E E E E E (qc ?_)))))));refine qa (qn (qm (zI hL (qaS qz E E E qh) ?_ ?_)))
    ·rfl
    exact ⟨by rw [qfu,if_pos c0];rfl,rfl⟩
   simp only[↓cqA,cqB]at c0
   refine qr (qa (qd (qb (zX E (zK (qd ?_))))));refine qd (qb (zA E (qe E qaa E) (zA E (qi E q9 E E E E E) (zA E (qu E qN E) (zX E (zK (qv (qac (t.args.length) (fun k=>k≤t.args.length) (fun k=>⟨[(1,.fn fb []),(2,.ptr 2 0),(4,.ptr 4 0),(5,.row 5),(16,.dat false 4 (tmDs t.args)),(17,iv (tmDs t.args).length),(18,iv (k:Int))],[(2,.box (lift false (tmD t))),(4,.box ([Value.int .i64 0,Value.string ⟨#[]⟩,Value.int .i64 0,Value.slice none 0 0].map .imm)),(5,.rowd 34 4 true (qlm ((t.args.take k).map (qfu g d))))]⟩) zO ?_ (fun k hk hp=>?_)))))))))
   ·exact Sub.trans (qam (t:=5) (l:=5) 34 4 true E E) (qC (zC E (zC E (zC E (zC E (zC E (zC E (zC E SubT.nil))))))) (SubO.cons (qU E (by rfl)) (SubO.cons (qU E (by rfl)) (SubO.cons (qU E (by rfl)) SubO.nil))) E E (noL' (noL hL) _))
   have hl2:(qlm ((t.args.take k).map (qfu g d))).length≤t.args.length:=by simp [qlm];omega
   refine qd (qb (zA E (qj E E E E) (zK (qd (qo E (fun c1=>?_) (fun c1=>?_))))))
   ·simp only[↓cqA,cqB]at c1
    obtain ⟨u,hu⟩:=qM (l:=t.args) (k:=k) (by omega)
    have hum:=List.mem_of_getElem? hu
    refine qr (qa (qd (qv (qd (qb (zA E (qp E qN E E zO (qbP hu)) (zA E (qD E qz E E) (qt E E zD (qat 7 E qaJ E) E (qT E E E qz E E E E E E E E E (zK (qb (zX E (zA E (qF E qz E E E E) (zX E (qH (avs:=[_,_]) true E E E zD qeI E E (qow g fb hen hby d u (h u hum) (Tm.wfs_mem ht.2.2.2.2 hum)) E E (qt E E zD (qaj 26 E qN qaJ E E zD zD zD E E E) E (qbW E E zD (qaU 27 qgm E E E E E E E E (noL hL _) zO E) E ?_)))))))))))))))))
    refine zX E (qc (qR (qa (qb (zA E (qO E E E zO) (zX E (qc ?_)))))));refine qa ?_;refine ⟨?_,?_,?_⟩
    ·omega
    ·omega
    exact Sub.trans (qZ 27 5 (noL hL _) (noL hL _)) (qC (zC E (zC E (zC E (zC E (zC E (zC E (zC E SubT.nil))))))) (SubO.cons (qU E (by rfl)) (SubO.cons (qU E (by rfl)) (SubO.cons (qU E (by rw [qas hu,List.map_append,qlm,qlm,List.map_append];rfl)) SubO.nil))) E E (noL' (noL hL) _))
   simp only[↓cqA,cqB]at c1
   refine qV (qq (qq (qad ?_)));refine qa (qd (qb (zX E (zA E (qe E qaa E) (qT E E E q9 E E E E E E E E E (zK ?_))))));refine qd (qbI (qaG (l:=5) E zD (noL hL _) E E) (qb (zA E (qF E qz E E E E) (qT E E E qz E E E E E E E E E (zK (qn (zI hL (qaS qz E E E qh) ?_ ?_)))))))
   ·rfl
   exact ⟨by rw [qfu,if_neg c0,List.take_of_length_le zO];simp only [tmD,qeE];rfl,rfl⟩
theorem Own1_raw (s:ByteArray):PF 203 [sv s] (.agg [iv 1,sv s,iv 0,.imm (.slice none 0 0)]):=by
 refine qI Tryz.func203 E Tryz.ntmps203 zL fun c hL hQ hDD=>(qd (qb (qt E E zD (qat 2 E qaJ E) E (zK (qd (qb ?_))))));refine zX E (zA E (qaF E qaJ E qd4 E E) (qT E E E qz E E E E E E E E E (zK (qn (zI hL (qaS qz E E E qh) ?_ ?_)))))
 ·rfl
 exact ⟨rfl,rfl⟩
theorem Own1_ok (s:ByteArray):PF 203 [sv s] (.agg (lift true (tmD ⟨1,s,0,[]⟩))):=
 AC_leR (.agg (.cons .refl (.cons .refl (.cons .refl (.cons .nil .nil))))) (Own1_raw s)
def ownT (d:Nat)(t:Tm):Tm:=qfu (fun s=>⟨1,s,0,[]⟩) d t
theorem qsO (d:Nat)(t:Tm)(h:dle d t)(ht:t.wf):PF 141 [tmA false t] (.agg (lift true (tmD (ownT d t)))):=by
 refine qI Tryz.func141 E Tryz.ntmps141 zL fun c hL hQ hDD=>(qd (qb (qt E E zD (q6 1 E E E) E (qt E E zD (qat 2 E qaJ E) E (zK (qd ?_))))));refine qb (zA E (qF E qz E E E E) (qH (avs:=[_,_]) true E E E zD qeI E E (qow _ _ qmX Own1_ok d t h ht) E E (qT E E E qz E E E E E E E E E (zK (qn (zI hL (qaS qz E E E qh) ?_ ?_))))))
 ·rfl
 exact ⟨rfl,rfl⟩
theorem qmE:∀ (d:Nat) (t:Tm) (n:Int),(mayS d t n).1=true→ownT d t=t
 | 0,t,n,h=>by simp [mayS] at h
 | d+1,t,n,h=>by
   have hL:∀ (l:List Tm) (n:Int),(mayL (mayS d) l n).1=true→l.map (ownT d)=l:=by
    intro l
    induction l with
    | nil=>intro n _;rfl
    | cons a l ih=>
      intro n h
      simp only [mayL] at h
      split at h
      ·rename_i hb
       rw [List.map_cons,qmE d a n hb,ih _ h]
      ·cases h
   obtain ⟨kind,name,m,args⟩:=t
   have e0:∀ l:List Tm,l.length=0→l=[]:=fun l h=>List.eq_nil_of_length_eq_zero h
   simp only [mayS] at h
   split at h
   ·cases h
   split at h
   ·rename_i k1
    simp only [Bool.and_eq_true,decide_eq_true_eq] at h
    simp only [ownT,qfu,if_pos k1]
    rw [k1,h.1.2,e0 _ h.2]
   rename_i k1
   split at h
   ·simp only [Bool.and_eq_true,decide_eq_true_eq] at h
    simp only [ownT,qfu,if_neg k1]
    rw [e0 _ h.2];rfl
   split at h
   ·split at h
    ·have hA:args.map (qfu (fun s=>⟨1,s,0,[]⟩) d)=args:=hL args (n-1) h
     simp only [ownT,qfu,if_neg k1]
     rw [hA]
    ·cases h
   ·cases h
abbrev kpA (k:Kp):AV:=.agg (lift false (kpD k))
end Go.Proofs.YtpgceiijoedppaaGreat