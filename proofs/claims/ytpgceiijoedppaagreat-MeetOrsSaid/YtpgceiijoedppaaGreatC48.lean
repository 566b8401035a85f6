/- Part 48 of the proof: Og, Nl. -/
import Derived.Test.YtpgceiijoedppaaGreatC46
set_option linter.unusedVariables false
set_option linter.unusedSimpArgs false
set_option maxRecDepth 8000
namespace Go.Proofs.YtpgceiijoedppaaGreat
open Go
theorem qjY {α:Type}(f:α→Int)(m:Int)(hm:m<1048576):∀ (n:Int) (l:List α),(∀ t,t∈l→1≤f t)→0≤n→wgtL f n l≤m→n+l.length≤m
 | n,[],_,_,h=>by simpa [wgtL] using h
 | n,a::l,hf,hn,h=>by
   have h1:=qbJ f n (a::l) (fun t ht=>by have:=hf t ht;omega)
   simp only [wgtL] at h
   rw [if_pos (by omega)] at h
   have h0:=hf a (by simp)
   have h2:=qjY f m hm (n+f a) l (fun t ht=>hf t (by simp [ht])) (by omega) h
   simp only [List.length_cons];push_cast;omega
theorem qmk (d:Nat)(p:Pt)(h:p.wf):1≤wgtP d p:=by
 cases d with
 | zero=>simp [wgtP]
 | succ d=>
   have h0:=qdI p.t h.2.1
   have g1:=qbJ (wgtP d) (1+wT p.t) p.l (fun t ht=>qdo d t (Pt.wfs_iff.1 h.2.2.2.1.2 t ht))
   have g2:=qbJ (wgtP d) (wgtL (wgtP d) (1+wT p.t) p.l) p.r (fun t ht=>qdo d t (Pt.wfs_iff.1 h.2.2.2.2.1.2 t ht))
   have g3:=qbJ (wgtP d) (wgtL (wgtP d) (wgtL (wgtP d) (1+wT p.t) p.l) p.r) p.c (fun t ht=>qdo d t (Pt.wfs_iff.1 h.2.2.2.2.2.2 t ht))
   simp only [wgtP];omega
def smP:Nat→Pt→Prop
 | 0,_=>False
 | d+1,p=>dle 30 p.t∧(p.l.length≤1048575∧p.r.length≤1048575∧p.c.length≤1048575)∧(∀ x∈p.l,smP d x)∧(∀ x∈p.r,smP d x)∧∀ x∈p.c,smP d x
theorem qjW:∀ (d:Nat) (p:Pt),p.wf→wgtP d p≤1048575→smP d p
 | 0,p,_,h=>by simp [wgtP] at h
 | d+1,p,h,hw=>by
   have h0:=qdI p.t h.2.1
   simp only [wgtP] at hw
   have oL:∀ t∈p.l,1≤wgtP d t:=fun t ht=>qmk d t (Pt.wfs_iff.1 h.2.2.2.1.2 t ht)
   have oR:∀ t∈p.r,1≤wgtP d t:=fun t ht=>qmk d t (Pt.wfs_iff.1 h.2.2.2.2.1.2 t ht)
   have oC:∀ t∈p.c,1≤wgtP d t:=fun t ht=>qmk d t (Pt.wfs_iff.1 h.2.2.2.2.2.2 t ht)
   have hL:∀ t∈p.l,0≤wgtP d t:=fun t ht=>by have:=oL t ht;omega
   have hR:∀ t∈p.r,0≤wgtP d t:=fun t ht=>by have:=oR t ht;omega
   have hC:∀ t∈p.c,0≤wgtP d t:=fun t ht=>by have:=oC t ht;omega
   have g1:=qbJ (wgtP d) (1+wT p.t) p.l hL
   have g2:=qbJ (wgtP d) (wgtL (wgtP d) (1+wT p.t) p.l) p.r hR
   obtain ⟨a1,a2⟩:=qeD (wgtP d) 1048575 (by omega) _ p.c hC (by omega) hw
   obtain ⟨b1,b2⟩:=qeD (wgtP d) 1048575 (by omega) _ p.r hR (by omega) a1
   obtain ⟨c1,c2⟩:=qeD (wgtP d) 1048575 (by omega) _ p.l hL (by omega) b1
   have n1:=qjY (wgtP d) 1048575 (by omega) _ p.c oC (by omega) hw
   have n2:=qjY (wgtP d) 1048575 (by omega) _ p.r oR (by omega) a1
   have n3:=qjY (wgtP d) 1048575 (by omega) _ p.l oL (by omega) b1
   exact ⟨qmj 30 p.t (show wT p.t≤1048575 by omega),⟨by omega,by omega,by omega⟩,fun x hx=>qjW d x (Pt.wfs_iff.1 h.2.2.2.1.2 x hx) (c2 x hx),fun x hx=>qjW d x (Pt.wfs_iff.1 h.2.2.2.2.1.2 x hx) (b2 x hx),fun x hx=>qjW d x (Pt.wfs_iff.1 h.2.2.2.2.2.2 x hx) (a2 x hx)⟩
theorem qg7 (a:List Pt)(u:Pt):ptDs (a++[u])=ptDs a++[ptD u]:=by simp [qd1]
def CpC (D:Nat):Prop:=∀ p:Pt,p.wf→smP D p→PF 127 [ptA false p] (ptA false p)
theorem qjo (D:Nat)(ih:CpC D)(l:List Pt)(hl:l.length≤1048575)(hw:∀ u∈l,u.wf)(hd:∀ u∈l,smP D u):AC Tryz.prog 194 [.dat false 9 (ptDs l)] [] (fun r O=>r=.row 3∧O=[(3,.rowd 36 9 false (ptDs l))]):=by
 have hlen:=qaQ l
 refine qI Tryz.func194 E Tryz.ntmps194 zL fun c hL hQ hDD=>(qd (qb (zX E (zK (qd (qb ?_))))));refine zX E (zK (qd (qd (qb (zX E (zK (qv (qac (l.length) (fun k=>k≤l.length) (fun k=>⟨[(0,.dat false 9 (ptDs l)),(3,.row 3),(4,iv (k:Int))],[(3,.rowd 36 9 false (ptDs (l.take k)))]⟩) zO ?_ (fun k hk hp=>?_)))))))))
 ·exact Sub.trans (qam (t:=3) (l:=3) 36 9 false E E) (qC (zC E (zC E (zC E SubT.nil))) (SubO.cons (qU E (by rfl)) SubO.nil) E E (noL' (noL hL) _))
 have hl2:(ptDs (l.take k)).length≤l.length:=by rw [qaQ,List.length_take];omega
 refine qd (qd (qb (zX E (zX E (zA E (qu E qy E) (zA E (qj E E E E) (qc ?_)))))));refine qa (qo E (fun c0=>?_) (fun c0=>?_))
 ·simp only[↓cqA,cqB]at c0
  obtain ⟨u,hu⟩:=qM (l:=l) (k:=k) (by omega)
  have hum:=List.mem_of_getElem? hu
  refine qr (qa (qd (qv (qb (zX E (zX E (zX E ?_)))))));refine zA E (qp E qy E E zO (qba hu)) (zA E (qD E qL E E) (qH (avs:=[_]) false E E E zD qdE E E (ih u (hw u hum) (hd u hum)) E E (qt E E zD (qaj 17 E qy qaX E E zD zD zD E E E) E (qbW E E zD (qaU 18 qck E E E E E E E E (noL hL _) zO E) E ?_))))
  refine zX E (qc (qR (qa (qb (zX E (zA E (qO E E E zO) (zX E ?_)))))));refine zK ?_;refine ⟨?_,?_,?_⟩
  ·omega
  ·omega
  exact Sub.trans (qZ 18 3 (noL hL _) (noL hL _)) (qC (zC E (zC E (zC E SubT.nil))) (SubO.cons (qU E (by rw [qas hu,qg7];rfl)) SubO.nil) E E (noL' (noL hL) _))
 simp only[↓cqA,cqB]at c0
 refine qV (qq (qq (qad ?_)));refine qa (qd (qb (zX E (zX E (zK (qn ?_))))))
 change retQ _ _ _ _ _ _ _
 refine retO (O':=[(3,_)]) (.inl E) (qg E qh) (SubO.cons E SubO.nil) ?_ ?_ (noL' (noL hL) _) ?_
 ·rfl
 ·rfl
 exact ⟨rfl,by rw [List.take_of_length_le zO]⟩
theorem qjT (D:Nat)(ih:CpC D)(p:Pt)(hp:p.wf)(hd:smP (D+1) p):PF 127 [ptA false p] (ptA false p):=by
 obtain ⟨hdt,⟨nL,nR,nC⟩,hdL,hdR,hdC⟩:=hd
 have htw:=hp.2.1
 obtain ⟨hlL,hwL⟩:=hp.2.2.2.1
 obtain ⟨hlR,hwR⟩:=hp.2.2.2.2.1
 obtain ⟨hlC,hwC⟩:=hp.2.2.2.2.2
 simp only [qbt] at hlL hlR hlC
 refine qI Tryz.func127 E Tryz.ntmps127 zL fun c hL hQ hDD=>(qd (qb (qt E E zD (q6 1 E E E) E (qt E E zD (qat 2 E qaX E) E (zK (qd ?_))))));refine qb (zA E (qF E qL E E E E) ?_)
 refine qt E E zD (qat 3 E qaX E) E (qT E E E qL E E E E E E E E E (zK (qd (qb (zA E (qe E qa6 E) (zA E (qi E qz E E E E E) ?_))))));refine qH (avs:=[_]) true E E E zD qch E E (qgP 30 p.t hdt htw) E E (zA E (qe E qa6 E) (qT E E E qz E E E E E E E E E (zK (qd (qbI (qdi hQ) (qbI (qC (T1:=[(1,.ptr 1 0),(2,.ptr 2 0),(3,.ptr 3 0)]) (O1:=[(1,.box (lift false (ptD p))),(2,.box [iv 0,iv 0,sv ⟨#[]⟩,iv 0,.imm (.slice none 0 0),iv 0,.imm (.slice none 0 0),.imm (.slice none 0 0),.imm (.slice none 0 0)]),(3,.box (lift false (ptD p)))]) (zB E (zB E (zB E SubT.nil))) (SubO.cons E (SubO.cons E (SubO.cons E SubO.nil))) E E (noL' (noL hL) _)) (qb (zA E (qe E qaP E) ?_))))))))
 refine zA E (qi E qB E E E E E) ?_;refine qag (avs:=[_]) false E E E zD qcv E E (qc0 3 77 (qjo D ih p.l zO (fun u hu=>Pt.wf_mem hwL hu) hdL)) E (qbQ .nil) (by rintro r O' ⟨_,rfl⟩;exact frB E) (by rintro h;cases h) ?_
 rintro r O' ⟨rfl,rfl⟩
 refine qab (qaG (l:=77) E zD (noL hL _) E E) (zA E (qe E qaP E) (qT E E E qB E E E E E E E E E (zK (qd (qbI (qC (T1:=[(1,.ptr 1 0),(2,.ptr 2 0),(3,.ptr 3 0)]) (O1:=[(1,.box (lift false (ptD p))),(2,.box [iv 0,iv 0,sv ⟨#[]⟩,iv 0,.imm (.slice none 0 0),iv 0,.imm (.slice none 0 0),.imm (.slice none 0 0),.imm (.slice none 0 0)]),(3,.box (lift false (ptD p)))]) (zB E (zB E (zB E SubT.nil))) (SubO.cons E (SubO.cons E (SubO.cons E SubO.nil))) E E (noL' (noL hL) _)) (qb (zA E (qe E qaO E) ?_)))))))
 refine zA E (qi E qB E E E E E) ?_;refine qag (avs:=[_]) false E E E zD qcv E E (qc0 3 78 (qjo D ih p.r zO (fun u hu=>Pt.wf_mem hwR hu) hdR)) E (qbQ .nil) (by rintro r O' ⟨_,rfl⟩;exact frB E) (by rintro h;cases h) ?_
 rintro r O' ⟨rfl,rfl⟩
 refine qab (qaG (l:=78) E zD (noL hL _) E E) (zA E (qe E qaO E) (qT E E E qB E E E E E E E E E (zK (qd (qbI (qC (T1:=[(1,.ptr 1 0),(2,.ptr 2 0),(3,.ptr 3 0)]) (O1:=[(1,.box (lift false (ptD p))),(2,.box [iv 0,iv 0,sv ⟨#[]⟩,iv 0,.imm (.slice none 0 0),iv 0,.imm (.slice none 0 0),.imm (.slice none 0 0),.imm (.slice none 0 0)]),(3,.box (lift false (ptD p)))]) (zB E (zB E (zB E SubT.nil))) (SubO.cons E (SubO.cons E (SubO.cons E SubO.nil))) E E (noL' (noL hL) _)) (qb (zA E (qe E qaD E) ?_)))))))
 refine zA E (qi E qB E E E E E) ?_;refine qag (avs:=[_]) false E E E zD qcv E E (qc0 3 79 (qjo D ih p.c zO (fun u hu=>Pt.wf_mem hwC hu) hdC)) E (qbQ .nil) (by rintro r O' ⟨_,rfl⟩;exact frB E) (by rintro h;cases h) ?_
 rintro r O' ⟨rfl,rfl⟩
 refine qab (qaG (l:=79) E zD (noL hL _) E E) (zA E (qe E qaD E) (qT E E E qB E E E E E E E E E (zK (qd (qbI (qC (T1:=[(1,.ptr 1 0),(2,.ptr 2 0),(3,.ptr 3 0)]) (O1:=[(1,.box (lift false (ptD p))),(2,.box [iv 0,iv 0,sv ⟨#[]⟩,iv 0,.imm (.slice none 0 0),iv 0,.imm (.slice none 0 0),.imm (.slice none 0 0),.imm (.slice none 0 0)]),(3,.box (lift false (ptD p)))]) (zB E (zB E (zB E SubT.nil))) (SubO.cons E (SubO.cons E (SubO.cons E SubO.nil))) E E (noL' (noL hL) _)) (qb (zA E (qF E qL E E E E) ?_)))))))
 refine qT E E E qL E E E E E E E E E (zK (qn (zI hL (qaS qL E E E qh) ?_ ?_)))
 ·rfl
 exact ⟨rfl,rfl⟩
theorem qh1:∀ D:Nat,CpC D
 | 0=>fun p _ hd=>hd.elim
 | D+1=>fun p hp hd=>qjT D (qh1 D) p hp hd
def EqpC (D:Nat):Prop:=∀ p:Pt,p.wf→dlP D p→PF 132 [ptA false p,ptA false p] (bv true)
theorem qnf (D:Nat)(ih:EqpC D)(l:List Pt)(hl:l.length≤140737488351232)(hw:∀ u∈l,u.wf)(hd:∀ u∈l,dlP D u):PF 200 [.dat false 9 (ptDs l),.dat false 9 (ptDs l)] (bv true):=by
 have hlen:=qaQ l
 refine qI Tryz.func200 E Tryz.ntmps200 zL fun c hL hQ hDD=>(qd (qb (zX E (zK (qd (qd ?_))))));refine qb (zX E (zA E (qu E qy E) (zX E (zA E (qu E qy E) (zA E (qj E E E E) (zK (qo E (fun c0=>?_) (fun c0=>?_))))))))
 ·simp only[↓cqA,cqB]at c0
  first|omega|exact absurd E c0|simp at c0
 simp only[↓cqA,cqB]at c0
 refine qr (qa (qd (qd (qb (zX E (zK ?_))))));refine qv (qac (l.length) (fun k=>k≤l.length) (fun k=>⟨[(0,.dat false 9 (ptDs l)),(1,.dat false 9 (ptDs l)),(5,iv (k:Int))],[]⟩) zO ?_ (fun k hk hp=>?_))
 ·exact zR hL (zC E (zC E (zC E SubT.nil))) SubO.nil
 refine qd (qd (qb (zX E (zX E (zA E (qu E qy E) (zA E (qj E E E E) (qc ?_)))))));refine qa (qo E (fun c1=>?_) (fun c1=>?_))
 ·simp only[↓cqA,cqB]at c1
  obtain ⟨u,hu⟩:=qM (l:=l) (k:=k) (by omega)
  have hum:=List.mem_of_getElem? hu
  refine qr (qa (qd (qv (qd (qX 8 mixed E E E E (zU E (ql (.inl E) E) (zU E (ql (.inl E) E) ?_)))))));refine zU E (qp E qy E E zO (qba hu)) (zU E (qD E qL E E) (zU E (ql (.inl E) E) (zU E (ql (.inl E) E) (zU E (qp E qy E E zO (qba hu)) (zU E (qD E qL E E) ?_)))))
  refine qaq ⟨rfl,rfl,?_⟩;refine qH (avs:=[_,_]) true E E E zD qc4 E E (ih u (hw u hum) (hd u hum)) E E (zA E (qaB E E) (zK (qo E (fun c2=>?_) (fun c2=>?_))))
  ·simp only[↓cqA,cqB]at c2
   cases c2
  simp only[↓cqA,cqB]at c2
  refine qr (qR (qa (qb (zX E (zA E (qO E E E zO) (zX E (qc ?_)))))));refine qa ?_;refine ⟨?_,?_,?_⟩
  ·omega
  ·omega
  exact zR hL (zC E (zC E (zC E SubT.nil))) SubO.nil
 simp only[↓cqA,cqB]at c1
 refine qV (qq (qq (qad ?_)));refine qa (qd (qb (zX E (zK (qn (zI hL (qg E qh) ?_ ?_))))))
 ·rfl
 exact ⟨rfl,rfl⟩
theorem qlC (D:Nat)(ih:EqpC D)(p:Pt)(hp:p.wf)(hd:dlP (D+1) p):PF 132 [ptA false p,ptA false p] (bv true):=by
 obtain ⟨hdt,hdL,hdR,hdC⟩:=hd
 have htw:=hp.2.1
 obtain ⟨hlL,hwL⟩:=hp.2.2.2.1
 obtain ⟨hlR,hwR⟩:=hp.2.2.2.2.1
 obtain ⟨hlC,hwC⟩:=hp.2.2.2.2.2
 simp only [qbt] at hlL hlR hlC
 have key:=qeT 30 p.t p.t hdt htw htw
 rw [qn5 hdt] at key
 refine qI Tryz.func132 E Tryz.ntmps132 zL fun c hL hQ hDD=>(qd (qb (qt E E zD (q6 2 E E E) E (qt E E zD (q6 3 E E E) E (zX E (zK ?_))))));refine qd (qb (zA E (qe E qap E) (zA E (qi E qQ E E E E E) (zA E (qe E qap E) (zA E (qi E qQ E E E E E) (zA E (qj E E E E) (zX E (qE 10 E (fun g10=>?_) (fun g10=>?_)))))))))
 ·simp only[↓cqA,cqB]at g10
  refine zZ E (qe E qa6 E) (zZ E (qi E qz E E E E E) (zZ E (qe E qa6 E) (zZ E (qi E qz E E E E E) (zZ E (qai (avs:=[_,_]) true E qbg E E (key) (fun _=>rfl) E) (zA E (qk E E E) (zX E (qE 17 E (fun g17=>?_) (fun g17=>?_))))))))
  ·simp only[↓cqA,cqB]at g17
   refine zZ E (qe E qaT E) (zZ E (qi E qQ E E E E E) (zZ E (qe E qaT E) (zZ E (qi E qQ E E E E E) (zZ E (qj E E E E) (zA E (qk E E E) (zX E (qE 24 E (fun g24=>?_) (fun g24=>?_))))))))
   ·simp only[↓cqA,cqB]at g24
    refine zZ E (qe E qaP E) (zZ E (qi E qB E E E E E) (zZ E (qe E qaP E) (zZ E (qi E qB E E E E E) (zZ E (qai (avs:=[_,_]) true E qcM E E (qnf D ih p.l zO (fun u hu=>Pt.wf_mem hwL hu) hdL) (fun _=>rfl) E) (zA E (qk E E E) (zX E (qE 31 E (fun g31=>?_) (fun g31=>?_))))))))
    ·simp only[↓cqA,cqB]at g31
     refine zZ E (qe E qaO E) (zZ E (qi E qB E E E E E) (zZ E (qe E qaO E) (zZ E (qi E qB E E E E E) (zZ E (qai (avs:=[_,_]) true E qcM E E (qnf D ih p.r zO (fun u hu=>Pt.wf_mem hwR hu) hdR) (fun _=>rfl) E) (zA E (qk E E E) (zX E (qE 38 E (fun g38=>?_) (fun g38=>?_))))))))
     ·simp only[↓cqA,cqB]at g38
      refine zZ E (qe E qaD E) (zZ E (qi E qB E E E E E) (zZ E (qe E qaD E) (zZ E (qi E qB E E E E E) (zZ E (qai (avs:=[_,_]) true E qcM E E (qnf D ih p.c zO (fun u hu=>Pt.wf_mem hwC hu) hdC) (fun _=>rfl) E) (zA E (qk E E E) (zX E (zK (qn (zI hL (qg E qh) ?_ ?_)))))))))
      ·rfl
      refine ⟨q7 ?_,rfl⟩
      first|rfl|simp_all
     refine zY E (zY E (zY E (zY E (zY E (zA E (qk E E E) (zX E (qc ?_)))))));refine qa (qn (zI hL (qg E qh) ?_ ?_))
     ·rfl
     refine ⟨q7 ?_,rfl⟩
     first|rfl|simp_all
    refine zY E (zY E (zY E (zY E (zY E (zA E (qk E E E) ?_)))))
    refine zX E (zY E (zY E (zY E (zY E (zY E (zA E (qk E E E) (zX E ?_)))))));refine zK (qn (zI hL (qg E qh) ?_ ?_))
    ·rfl
    refine ⟨q7 ?_,rfl⟩
    first|rfl|simp_all
   simp only[↓cqA,cqB]at g24
   refine zY E (zY E (zY E (zY E (zY E (zA E (qk E E E) (zX E (zY E (zY E (zY E (zY E (zY E (zA E (qk E E E) (zX E (zY E (zY E (zY E (zY E (zY E (zA E (qk E E E) (zX E (zK (qn (zI hL (qg E qh) ?_ ?_)))))))))))))))))))))))
   ·rfl
   refine ⟨q7 ?_,rfl⟩
   first|rfl|simp_all
  refine zY E (zY E (zY E (zY E (zY E (zA E (qk E E E) (zX E (zY E (zY E (zY E (zY E (zY E (zA E (qk E E E) (zX E (zY E (zY E (zY E (zY E (zY E (zA E (qk E E E) (zX E (zY E (zY E (zY E ?_)))))))))))))))))))))))
  refine zY E (zY E (zA E (qk E E E) (zX E (zK (qn (zI hL (qg E qh) ?_ ?_))))))
  ·rfl
  refine ⟨q7 ?_,rfl⟩
  first|rfl|simp_all
 simp only[↓cqA,cqB]at g10
 refine zY E (zY E (zY E (zY E (zY E (zA E (qk E E E) (zX E (zY E (zY E (zY E (zY E (zY E (zA E (qk E E E) (zX E (zY E (zY E (zY E (zY E (zY E (zA E (qk E E E) (zX E (zY E (zY E (zY E ?_)))))))))))))))))))))))
 refine zY E (zY E (zA E (qk E E E) (zX E (zY E (zY E (zY E (zY E (zY E (zA E (qk E E E) (zX E (zK (qn (zI hL (qg E qh) ?_ ?_)))))))))))))
 ·rfl
 refine ⟨q7 ?_,rfl⟩
 first|rfl|simp_all
theorem qhs:∀ D:Nat,EqpC D
 | 0=>fun p _ hd=>hd.elim
 | D+1=>fun p hp hd=>qlC D (qhs D) p hp hd
theorem qiH (s:ByteArray):PF 201 [sv s] (.agg [iv 3,sv s,iv 0,.imm (.slice none 0 0)]):=by
 refine qI Tryz.func201 E Tryz.ntmps201 zL fun c hL hQ hDD=>(qd (qb (qt E E zD (qat 2 E qaJ E) E (zK (qd (qb ?_))))));refine zX E (zA E (qaF E qaJ E qd4 E E) (qT E E E qz E E E E E E E E E (zK (qn (zI hL (qaS qz E E E qh) ?_ ?_)))))
 ·rfl
 exact ⟨rfl,rfl⟩
theorem qiC (e:Int):PF 130 [iv e] (iv e):=by
 refine qI Tryz.func130 E Tryz.ntmps130 zL fun c hL hQ hDD=>(qd (qb (zX E (zK (qd (qb ?_))))));refine zX E (zX E (zK (qn (zI hL (qg E qh) ?_ ?_))))
 ·rfl
 exact ⟨rfl,rfl⟩
def wsA:ByteArray:=⟨#[97]⟩
def wsB:ByteArray:=⟨#[98]⟩
def wtA:Tm:=⟨3,wsA,0,[]⟩
def wtB:Tm:=⟨3,wsB,0,[]⟩
def wkL:List Kp:=[⟨3,⟨wtA,1,1⟩⟩,⟨5,⟨wtB,2,4⟩⟩]
def wpA:Pt:=⟨1,wtA,0,[],[],[]⟩
def wpB:Pt:=⟨1,wtB,0,[],[],[]⟩
def wpS:Pt:=⟨2,⟨0,⟨#[]⟩,0,[]⟩,0,[wpA],[wpB],[]⟩
theorem wt_w {s:ByteArray}(h:s.size≤1000):(⟨3,s,0,[]⟩:Tm).wf:=nmT_w s [] (by omega) (by decide) (fun t ht=>by cases ht)
theorem fit_nm (s:ByteArray):fitR 5 [] (⟨3,s,0,[]⟩:Tm) ⟨3,s,0,[]⟩=([],0):=by
 rw [fitR,if_neg (show ¬ (3:Int)=1 by decide),if_pos (by simp [qdZ])]
 show fitL 4 [] ([]:List (Tm×Tm))=_
 rw [fitL]
theorem fit_no {a b:Tm}(h1:¬ a.kind=1)(h:qdZ a b=false):(fitR 5 [] a b).2=3:=by
 rw [fitR,if_neg h1,if_neg (by rw [h];exact Bool.noConfusion)]
theorem wk_A:wkL.filterMap (qcj wtA)=[⟨[],1,1,[3]⟩]:=by
 have e1:qcj wtA ⟨3,⟨wtA,1,1⟩⟩=some ⟨[],1,1,[3]⟩:=by rw [qcj,show fitR 5 [] wtA wtA=([],0) from fit_nm wsA];rfl
 have e2:qcj wtA ⟨5,⟨wtB,2,4⟩⟩=none:=by rw [qcj,if_neg (by rw [fit_no (a:=wtA) (b:=wtB) (by decide) (by kernel_rfl)];decide)]
 rw [wkL,List.filterMap_cons,e1,List.filterMap_cons,e2,List.filterMap_nil]
theorem wk_B:wkL.filterMap (qcj wtB)=[⟨[],2,4,[5]⟩]:=by
 have e1:qcj wtB ⟨3,⟨wtA,1,1⟩⟩=none:=by rw [qcj,if_neg (by rw [fit_no (a:=wtB) (b:=wtA) (by decide) (by kernel_rfl)];decide)]
 have e2:qcj wtB ⟨5,⟨wtB,2,4⟩⟩=some ⟨[],2,4,[5]⟩:=by rw [qcj,show fitR 5 [] wtB wtB=([],0) from fit_nm wsB];rfl
 rw [wkL,List.filterMap_cons,e1,List.filterMap_cons,e2,List.filterMap_nil]
theorem wk_all:mAll 8 wkL wpS=([⟨[],1,4,[3,5]⟩],true):=by
 have hA:mAll 7 wkL wpA=([⟨[],1,1,[3]⟩],true):=by
  rw [mAll,if_pos (show wpA.kind=1 from rfl),show wpA.t=wtA from rfl,wk_A];rfl
 have hB:mAll 7 wkL wpB=([⟨[],2,4,[5]⟩],true):=by
  rw [mAll,if_pos (show wpB.kind=1 from rfl),show wpB.t=wtB from rfl,wk_B];rfl
 rw [mAll,if_neg (by decide),show hdP wpS.l=wpA from E,show hdP wpS.r=wpB from E,hA,hB]
 first|rfl|(show _=_;kernel_rfl)
def eqMt (a b:Mt):Bool:=qjJ a.b b.b&&(a.fr==b.fr&&a.to==b.to)&&decide (a.u=b.u)
theorem qqq {a b:Mt}(hd:∀ x∈a.b,dle 5 x.t):eqMt a b=true↔a=b:=by
 constructor
 ·intro h
  simp only [eqMt,Bool.and_eq_true,beq_iff_eq,decide_eq_true_eq] at h
  obtain ⟨⟨h1,h2,h3⟩,h4⟩:=h
  cases a;cases b
  simp only [Mt.mk.injEq]
  exact ⟨qqs hd h1,h2,h3,h4⟩
 ·intro h
  subst h
  simp only [eqMt,Bool.and_eq_true,beq_iff_eq,decide_eq_true_eq,and_true,true_and]
  refine qjl E fun j x y hx hy=>?_
  rw [hx] at hy;cases hy
  simp only [eqBd,decide_true,Bool.true_and]
  exact eqT_self (hd x (List.mem_of_getElem? hx))
theorem qru (a b:Mt)(hd:∀ x∈a.b,dle 5 x.t)(ha:a.wf)(hb:b.wf):PF 26 [mtA a,mtA b] (bv (eqMt a b)):=by
 obtain ⟨⟨la,wa⟩,_,lua,_⟩:=id ha
 obtain ⟨⟨lb,wb⟩,_,lub,_⟩:=id hb
 simp only [qbt] at la lb lua lub
 refine qI Tryz.func26 E Tryz.ntmps26 zL fun c hL hQ hDD=>(qd (qb (qt E E zD (q6 2 E E E) E (qt E E zD (q6 3 E E E) E (zX E (zK ?_))))));refine qd (qb (zA E (qe E qaH E) (zA E (qi E qaK E E E E E) (zA E (qe E qaH E) (zA E (qi E qaK E E E E E) (qH (avs:=[_,_]) true E E E zD qgM E E (qrv a.b b.b hd wa wb zO zO) E E (zX E (qE 10 E (fun g10=>?_) (fun g10=>?_)))))))))
 ·refine zZ E (qe E qae E) (zZ E (qi E qav E E E E E) (zZ E (qe E qae E) (zZ E (qi E qav E E E E E) (zZ E (qfd E E E) (zA E (qk E E E) (zX E (qE 17 E (fun g17=>?_) (fun g17=>?_))))))))
  ·refine zZ E (qe E qaV E) (zZ E (qi E qbZ E E E E E) (zZ E (qe E qaV E) (zZ E (qi E qbZ E E E E E) (zZ E (qai (avs:=[_,_]) true E qdX E E (qjE a.u b.u zO zO) (fun _=>rfl) E) (zA E (qk E E E) (zX E (zK (qn (zI hL (qg E qh) ?_ ?_)))))))))
   ·rfl
   refine ⟨q7 ?_,rfl⟩
   simp_all [eqMt]
  refine zY E (zY E (zY E (zY E (zY E (zA E (qk E E E) (zX E (qc ?_)))))));refine qa (qn (zI hL (qg E qh) ?_ ?_))
  ·rfl
  refine ⟨q7 ?_,rfl⟩
  simp_all [eqMt]
 refine zY E (zY E (zY E (zY E (zY E (zA E (qk E E E) ?_)))))
 refine zX E (zY E (zY E (zY E (zY E (zY E (zA E (qk E E E) (zX E ?_)))))));refine zK (qn (zI hL (qg E qh) ?_ ?_))
 ·rfl
 refine ⟨q7 ?_,rfl⟩
 simp_all [eqMt]
def qpd:List Mt→List Mt→Bool
 | [],[]=>true
 | a::l,b::m=>eqMt a b&&qpd l m
 | _,_=>false
theorem qiR:∀ {x y:List Mt},(∀ a∈x,∀ u∈a.b,dle 5 u.t)→(qpd x y=true↔x=y)
 | [],[],_=>by simp [qpd]
 | [],_::_,_=>by simp [qpd]
 | _::_,[],_=>by simp [qpd]
 | a::x,b::y,h=>by
   rw [qpd,Bool.and_eq_true,qqq (h a (by simp)),qiR (fun c hc=>h c (by simp [hc]))]
   simp
theorem qjF (x y:List Mt)(hd:∀ a∈x,∀ u∈a.b,dle 5 u.t)(wx:∀ a∈x,a.wf)(wy:∀ a∈y,a.wf)(lx:x.length≤140737488351232)(ly:y.length≤140737488351232):PF 25 [.dat false 4 (mtDs x),.dat false 4 (mtDs y)] (bv (qpd x y)):=by
 have hlx:=qah x
 have hly:=qah y
 have hiff:=qiR (y:=y) hd
 refine qI Tryz.func25 E Tryz.ntmps25 zL fun c hL hQ hDD=>(qd (qb (zX E (zK (qd (qd ?_))))));refine qb (zX E (zA E (qu E qw E) (zX E (zA E (qu E qw E) (zA E (qj E E E E) (zK (qo E (fun c0=>?_) (fun c0=>?_))))))))
 ·simp only[↓cqA,cqB]at c0
  refine qd (qb (zX E (zK (qn (qm (zI hL (qg E qh) ?_ ?_))))))
  ·rfl
  exact ⟨q7 (by symm;rw [Bool.eq_false_iff];intro h;rw [hiff.1 h] at c0;omega),rfl⟩
 simp only[↓cqA,cqB]at c0
 refine qr (qa (qd (qd (qb (zX E (zK ?_))))));refine qv (qac (x.length) (fun k=>k≤x.length∧x.take k=y.take k) (fun k=>⟨[(0,.dat false 4 (mtDs x)),(1,.dat false 4 (mtDs y)),(5,iv (k:Int))],[]⟩) (⟨by omega,by simp⟩) ?_ (fun k hk hp=>?_))
 ·exact zR hL (zC E (zC E (zC E SubT.nil))) SubO.nil
 refine qd (qd (qb (zX E (zX E (zA E (qu E qw E) (zA E (qj E E E E) (qc ?_)))))));refine qa (qo E (fun c1=>?_) (fun c1=>?_))
 ·simp only[↓cqA,cqB]at c1
  obtain ⟨u,hu⟩:=qM (l:=x) (k:=k) (by omega)
  obtain ⟨v,hv⟩:=qM (l:=y) (k:=k) (by omega)
  have hum:=List.mem_of_getElem? hu
  have hi2:=qqq (b:=v) (hd u hum)
  refine qr (qa (qd (qv (qd (qX 8 mixed E E E E (zU E (ql (.inl E) E) (zU E (ql (.inl E) E) ?_)))))));refine zU E (qp E qw E E zO (qbR hu)) (zU E (qD E qK E E) (zU E (ql (.inl E) E) (zU E (ql (.inl E) E) (zU E (qp E qw E E zO (qbR hv)) (zU E (qD E qK E E) ?_)))))
  refine qaq ⟨rfl,rfl,?_⟩;refine qH (avs:=[_,_]) true E E E zD qgL E E (qru u v (hd u hum) (wx u hum) (wy v (List.mem_of_getElem? hv))) E E (zA E (qaB E E) (zK (qo E (fun c2=>?_) (fun c2=>?_))))
  ·simp only[↓cqA,cqB]at c2
   refine qd (qb (zX E (zK (qn (qP (qm (qm (qP (qm (zI hL (qg E qh) ?_ ?_))))))))))
   ·rfl
   exact ⟨q7 (by symm;rw [Bool.eq_false_iff];intro h;rw [hiff.1 h,hv] at hu;cases hu;rw [hi2.2 rfl] at c2;cases c2),rfl⟩
  simp only[↓cqA,cqB]at c2
  refine qr (qR (qa (qb (zX E (zA E (qO E E E zO) (zX E (qc ?_)))))));refine qa ?_;refine ⟨?_,?_,?_⟩
  ·omega
  ·refine ⟨by omega,?_⟩
   rw [qas hu,qas hv,hp.2,hi2.1 (by assumption)]
  exact zR hL (zC E (zC E (zC E SubT.nil))) SubO.nil
 simp only[↓cqA,cqB]at c1
 refine qV (qq (qq (qad ?_)));refine qa (qd (qb (zX E (zK (qn (zI hL (qg E qh) ?_ ?_))))))
 ·rfl
 exact ⟨q7 (by symm;rw [hiff];have h:=hp.2;rw [List.take_of_length_le zO,List.take_of_length_le zO] at h;exact h),rfl⟩
end Go.Proofs.YtpgceiijoedppaaGreat