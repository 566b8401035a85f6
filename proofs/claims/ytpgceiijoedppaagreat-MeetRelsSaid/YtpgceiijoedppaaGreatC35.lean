/- Part 35 of the proof: Nd. -/
import Derived.Test.YtpgceiijoedppaaGreatC29
set_option linter.unusedVariables false
set_option linter.unusedSimpArgs false
set_option maxRecDepth 8000
namespace Go.Proofs.YtpgceiijoedppaaGreat
open Go
variable {k:Nat}{n:Int}{u v:Bd}{α:Type}{f:α→α→Int}{x y:List α}
def cmpZ {α:Type}(f:α→α→Int):List α→List α→Int
 | a::x,b::y=>if f a b=0 then cmpZ f x y else f a b
 | _,_=>0
def or2 (x y:Int):Int:=if x=0 then y else x
theorem ql9 {α:Type}(f:α→α→Int):∀ x y:List α,cmpG f x y=or2 (cmpZ f x y) (cmpI x.length y.length)
 | [],[]=>rfl
 | [],_::_=>by simp [cmpG,cmpZ,or2,cmpI]
 | _::_,[]=>by simp [cmpG,cmpZ,or2,cmpI];omega
 | a::x,b::y=>by
   have ih:=ql9 f x y
   have e:cmpI ((a::x).length:Int) ((b::y).length:Int)=cmpI x.length y.length:=by
    simp only [cmpI,List.length_cons]
    push_cast
    split<;>split<;>(try split)<;>(try split)<;>omega
   rw [cmpG,cmpZ,e]
   by_cases h:f a b=0
   ·rw [if_pos h,if_pos h];exact ih
   ·rw [if_neg h,if_neg h,or2,if_neg h]
theorem qoh {α:Type}{f:α→α→Int}:∀ {x y:List α},(∀ (j:Nat) (a b:α),x[j]?=some a→y[j]?=some b→f a b=0)→cmpZ f x y=0
 | [],_,_=>by simp [cmpZ]
 | _::_,[],_=>by simp [cmpZ]
 | a::x,b::y,h=>by
   rw [cmpZ,if_pos (h 0 a b rfl rfl)]
   exact qoh fun j u v hu hv=>h (j+1) u v (by simpa using hu) (by simpa using hv)
theorem qsw {α:Type}{f:α→α→Int}:∀ {x y:List α} {k:Nat} {a b:α},(∀ (j:Nat) (a b:α),j<k→x[j]?=some a→y[j]?=some b→f a b=0)→x[k]?=some a→y[k]?=some b→f a b≠0→cmpZ f x y=f a b
 | [],_,_,_,_,_,ha,_,_=>by simp at ha
 | _::_,[],_,_,_,_,_,hb,_=>by simp at hb
 | u::x,v::y,0,a,b,h,ha,hb,hn=>by
   simp only [List.getElem?_cons_zero,Option.some.injEq] at ha hb
   subst ha;subst hb
   rw [cmpZ,if_neg hn]
 | u::x,v::y,k+1,a,b,h,ha,hb,hn=>by
   rw [cmpZ,if_pos (h 0 u v (by omega) E E)]
   exact qsw (k:=k) (fun j p q hj hp hq=>h (j+1) p q zO (by simpa using hp) (by simpa using hq)) (by simpa using ha) (by simpa using hb) hn
theorem qkc (hp:(n=0∧∀ (j:Nat) (a b:α),j<k→x[j]?=some a→y[j]?=some b→f a b=0)∨(n≠0∧n=cmpZ f x y))(hx:x.length≤k∨y.length≤k∨n≠0):n=cmpZ f x y:=by
 rcases hp with ⟨h0,h⟩|⟨_,h⟩
 ·rw [h0]
  refine (qoh fun j a b ha hb=>?_).symm
  have h1:=(List.getElem?_eq_some_iff.1 ha).1
  have h2:=(List.getElem?_eq_some_iff.1 hb).1
  exact h j a b (by rcases hx with h5|h5|h5<;>first|exact absurd h0 h5|omega) ha hb
 ·exact h
theorem qhE {a b:α}(hp:(n=0∧∀ (j:Nat) (a b:α),j<k→x[j]?=some a→y[j]?=some b→f a b=0)∨(n≠0∧n=cmpZ f x y))(h0:n=0)(ha:x[k]?=some a)(hb:y[k]?=some b):(f a b=0∧∀ (j:Nat) (a b:α),j<k+1→x[j]?=some a→y[j]?=some b→f a b=0)∨(f a b≠0∧f a b=cmpZ f x y):=by
 have h:∀ (j:Nat) (a b:α),j<k→x[j]?=some a→y[j]?=some b→f a b=0:=by
  rcases hp with ⟨_,h⟩|⟨h,_⟩
  ·exact h
  ·exact absurd h0 h
 by_cases hz:f a b=0
 ·refine .inl ⟨hz,fun j u v hj hu hv=>?_⟩
  by_cases hjk:j<k
  ·exact h j u v hjk hu hv
  ·rw [show j=k by omega] at hu hv
   rw [ha] at hu;rw [hb] at hv
   cases hu;cases hv;exact hz
 ·exact .inr ⟨hz,(qsw h ha hb hz).symm⟩
theorem qoX {t:Int}(hp:(t=0∧((n=0∧∀ (j:Nat) (a b:α),j<k→x[j]?=some a→y[j]?=some b→f a b=0)∨(n≠0∧n=cmpZ f x y)))∨(t≠0∧n=t))(hx:x.length≤k∨y.length≤k∨n≠0):n=or2 t (cmpZ f x y):=by
 rcases hp with ⟨h1,h2⟩|⟨h1,h2⟩
 ·rw [or2,if_pos h1];exact qkc h2 hx
 ·rw [or2,if_neg h1];exact h2
def qil (a b:Mt):Int:=or2 (or2 (cmpG cmpI a.u b.u) (cmpI a.fr b.fr)) (cmpI a.to b.to)
theorem qp1 (x:Int):or2 x 0=x:=by
 rw [or2];split
 ·rename_i h;exact h.symm
 ·rfl
theorem qkL (x y z:Int):or2 (or2 x y) z=or2 x (or2 y z):=by
 simp only [or2];split
 ·rfl
 ·rename_i h;first|rw [if_neg h]|rfl
theorem qp0 (a b:Mt):ordM a b=or2 (or2 (qil a b) (cmpZ qef a.b b.b)) (cmpI a.b.length b.b.length):=by
 have e:∀ x l,orL (x::l)=or2 x (orL l):=fun _ _=>rfl
 rw [ordM,e,e,e,e,qil,ql9 qef,orL,qp1,qkL,qkL,qkL]
theorem qnJ (h:ltS u.name v.name=true):qef u v=-1:=by
 have e:cmpS u.name v.name=-1:=by rw [qhj,h];rfl
 rw [qef,orL,e,if_neg (by decide)]
theorem qnL (h:ltS u.name v.name=false)(hn:¬ u.name=v.name):qef u v=1:=by
 have e:cmpS u.name v.name=1:=by rw [qhj,h,if_neg (by decide),if_neg hn]
 rw [qef,orL,e,if_neg (by decide)]
theorem qnM (h:ltS u.name v.name=false)(hn:u.name=v.name):qef u v=ordT 5 u.t v.t:=by
 have e:cmpS u.name v.name=0:=by rw [qhj,h,if_neg (by decide),if_pos hn]
 rw [qef,orL,e,if_pos rfl,orL,orL]
 exact qp1 _
theorem qf1 (x y:Int):PF 162 [iv x,iv y] (iv (cmpI x y)):=by
 refine qI Tryz.func162 E Tryz.ntmps162 zL fun c hL hQ hDD=>(qd (qb (zX E (zK (qd (qv ?_))))));refine qd (qb (zX E (zX E (zA E (qj E E E E) (zX E (zK (qo E (fun c0=>?_) (fun c0=>?_))))))))
 ·simp only[↓cqA,cqB]at c0
  refine qd (qb (zX E (zK (qn (qP (qm (zI hL (qg E qh) ?_ ?_)))))))
  ·rfl
  refine ⟨qbx ?_,rfl⟩
  simp only [cmpI];split<;>(try split)<;>omega
 simp only[↓cqA,cqB]at c0
 refine qd (qb (zX E (zX E (zA E (qj E E E E) (zX E (zK ?_))))));refine qo E (fun c1=>?_) (fun c1=>?_)
 ·simp only[↓cqA,cqB]at c1
  refine qd (qb (zX E (zK (qn (qP (qm (zI hL (qg E qh) ?_ ?_)))))))
  ·rfl
  refine ⟨qbx ?_,rfl⟩
  simp only [cmpI];split<;>(try split)<;>omega
 simp only[↓cqA,cqB]at c1
 refine qr (qR (qa (qd (qb (zX E (zK ?_))))));refine qn (zI hL (qg E qh) ?_ ?_)
 ·rfl
 refine ⟨qbx ?_,rfl⟩
 simp only [cmpI];split<;>(try split)<;>omega
theorem qgt (a b:Mt)(hd:∀ x∈a.b,dle 5 x.t)(ha:a.wf)(hb:b.wf):PF 106 [mtA a,mtA b] (iv (ordM a b)):=by
 obtain ⟨⟨la,wa⟩,_,lua,_⟩:=id ha
 obtain ⟨⟨lb,wb⟩,_,lub,_⟩:=id hb
 simp only [qbt] at la lb lua lub
 have l1:=qbH a.u
 have l2:=qbH b.u
 have l3:=qaR a.b
 have l4:=qaR b.b
 refine qI Tryz.func106 E Tryz.ntmps106 zL fun c hL hQ hDD=>(qd (qb (qt E E zD (q6 2 E E E) E (qt E E zD (q6 3 E E E) E (zX E (zK (qd (qb (zX E (zK (qdr ⟨[(2,.ptr 2 0),(3,.ptr 3 0),(5,iv (cmpZ cmpI a.u b.u))],[(2,.box (lift false (mtD a))),(3,.box (lift false (mtD b)))]⟩ ?_ ?_)))))))))))
 ·refine qd (qb (zX E (zK (qv (qci (α:=Int) (a.u.length) (fun k n=>k≤a.u.length∧k≤b.u.length∧((n=0∧∀ (j:Nat) (x y:Int),j<k→a.u[j]?=some x→b.u[j]?=some y→cmpI x y=0)∨(n≠0∧n=cmpZ cmpI a.u b.u))) (fun k n=>⟨[(2,.ptr 2 0),(3,.ptr 3 0),(5,iv n),(6,iv (k:Int))],[(2,.box (lift false (mtD a))),(3,.box (lift false (mtD b)))]⟩) (0) (⟨by omega,by omega,.inl ⟨rfl,fun j x y hj=>absurd hj zO⟩⟩) ?_ (fun k n hk hp=>?_))))))
  ·exact zR hL (zC E (zC E (zC E (zC E SubT.nil)))) (SubO.cons (qU E (by rfl)) (SubO.cons (qU E (by rfl)) SubO.nil))
  refine qd (qd (qb (zX E (zA E (qe E qaV E) (zA E (qi E qbZ E E E E E) (zA E (qu E qaW E) (zA E (qj E E E E) ?_)))))));refine zX E (qE 13 E (fun g13=>?_) (fun g13=>?_))
  ·simp only[↓cqA,cqB]at g13
   refine zZ E (ql (.inl E) E) (zZ E (qe E qaV E) (zZ E (qi E qbZ E E E E E) (zZ E (qu E qaW E) (zZ E (qj E E E E) (zA E (qk E E E) (zX E (qE 20 E (fun g20=>?_) (fun g20=>?_))))))))
   ·simp only[↓cqA,cqB]at g20
    obtain ⟨u,hu⟩:=qM (l:=a.u) (k:=k) (by omega)
    obtain ⟨v,hv⟩:=qM (l:=b.u) (k:=k) (by omega)
    refine zZ E (ql (.inl E) E) (zZ E (qj E E E E) (zA E (qk E E E) (zK (qo E (fun c0=>?_) (fun c0=>?_)))))
    ·simp only[↓cqA,cqB]at c0
     refine qr (qa (qd (qv (qX 10 mixed E E E E (zU E (qe E qaV E) (zU E (qi E qbZ E E E E E) (zU E (ql (.inl E) E) ?_)))))));refine zU E (qp E qaW E E zO (qfa hu)) (zU E (qW E qQ E) (zU E (qe E qaV E) (zU E (qi E qbZ E E E E E) (zU E (ql (.inl E) E) (zU E (qp E qaW E E zO (qfa hv)) (zU E (qW E qQ E) ?_))))))
     refine qaq ⟨rfl,rfl,?_⟩;refine qH (avs:=[_,_]) true E E E zD qce E E (qf1 _ _) E E (zX E (qc (qR (qa (qb (zX E (zA E (qO E E E zO) ?_)))))));refine zX E (zK ?_);refine ⟨?_,cmpI u v,?_,?_⟩
     ·omega
     ·exact ⟨by omega,by omega,qhE hp.2.2 c0 hu hv⟩
     exact zR hL (zC E (zC E (zC E (zC E SubT.nil)))) (SubO.cons (qU E (by rfl)) (SubO.cons (qU E (by rfl)) SubO.nil))
    simp only[↓cqA,cqB]at c0
    refine qV (qq (qq (qad ?_)))
    exact qaC (qC (zC E (zC E (SubT.cons (qaw E (by exact qan (qkc hp.2.2 zO))) SubT.nil))) (SubO.cons (qU E (by rfl)) (SubO.cons (qU E (by rfl)) SubO.nil)) E E (noL' (noL hL) _))
   simp only[↓cqA,cqB]at g20
   refine zY E (zY E (zA E (qk E E E) (zK (qaA E (qV (qq (qq (qad ?_))))))))
   exact qaC (qC (zC E (zC E (SubT.cons (qaw E (by exact qan (qkc hp.2.2 zO))) SubT.nil))) (SubO.cons (qU E (by rfl)) (SubO.cons (qU E (by rfl)) SubO.nil)) E E (noL' (noL hL) _))
  simp only[↓cqA,cqB]at g13
  refine zY E (zY E (zY E (zY E (zY E (zA E (qk E E E) ?_)))))
  refine zX E (zY E (zY E (zA E (qk E E E) (zK (qaA E (qV ?_))))));refine qq (qq (qad ?_))
  exact qaC (qC (zC E (zC E (SubT.cons (qaw E (by exact qan (qkc hp.2.2 zO))) SubT.nil))) (SubO.cons (qU E (by rfl)) (SubO.cons (qU E (by rfl)) SubO.nil)) E E (noL' (noL hL) _))
 refine qdr ⟨[(2,.ptr 2 0),(3,.ptr 3 0),(5,iv (cmpG cmpI a.u b.u))],[(2,.box (lift false (mtD a))),(3,.box (lift false (mtD b)))]⟩ ?_ ?_
 ·refine qd (qb (zX E (zA E (qj E E E E) (zK (qo E (fun c1=>?_) (fun c1=>?_))))))
  ·simp only[↓cqA,cqB]at c1
   refine qb (zA E (qe E qaV E) (zA E (qi E qbZ E E E E E) (zA E (qu E qaW E) (zA E (qe E qaV E) (zA E (qi E qbZ E E E E E) (zA E (qu E qaW E) (qH (avs:=[_,_]) true E E E zD qce E E (qf1 _ _) E E (zX E (qc ?_)))))))))
   exact qaC (qC (zC E (zC E (SubT.cons (qaw E (by first|exact qan (by rw [l1,l2,ql9,or2,if_pos c1])|exact qan (by rw [ql9,or2,if_neg c1]))) SubT.nil))) (SubO.cons (qU rfl (by rfl)) (SubO.cons (qU E (by rfl)) SubO.nil)) E E (noL' (noL hL) _))
  simp only[↓cqA,cqB]at c1
  refine qr ?_
  exact qaC (qC (zC E (zC E (SubT.cons (qaw E (by first|exact qan (by rw [l1,l2,ql9,or2,if_pos c1])|exact qan (by rw [ql9,or2,if_neg c1]))) SubT.nil))) (SubO.cons (qU rfl (by rfl)) (SubO.cons (qU E (by rfl)) SubO.nil)) E E (noL' (noL hL) _))
 refine qdr ⟨[(2,.ptr 2 0),(3,.ptr 3 0),(5,iv (or2 (cmpG cmpI a.u b.u) (cmpI a.fr b.fr)))],[(2,.box (lift false (mtD a))),(3,.box (lift false (mtD b)))]⟩ ?_ ?_
 ·refine qd (qb (zX E (zA E (qj E E E E) (zK (qo E (fun c2=>?_) (fun c2=>?_))))))
  ·simp only[↓cqA,cqB]at c2
   refine qb (zA E (qe E qae E) (zA E (qe E qal E) (zA E (qi E qQ E E E E E) (zA E (qe E qae E) (zA E (qe E qal E) (zA E (qi E qQ E E E E E) (qH (avs:=[_,_]) true E E E zD qce E E (qf1 _ _) E E (zX E (qc ?_)))))))))
   exact qaC (qC (zC E (zC E (SubT.cons (qaw E (by first|exact qan (by rw [or2,if_pos c2])|exact qan (by rw [or2,if_neg c2]))) SubT.nil))) (SubO.cons (qU rfl (by rfl)) (SubO.cons (qU E (by rfl)) SubO.nil)) E E (noL' (noL hL) _))
  simp only[↓cqA,cqB]at c2
  refine qr ?_
  exact qaC (qC (zC E (zC E (SubT.cons (qaw E (by first|exact qan (by rw [or2,if_pos c2])|exact qan (by rw [or2,if_neg c2]))) SubT.nil))) (SubO.cons (qU rfl (by rfl)) (SubO.cons (qU E (by rfl)) SubO.nil)) E E (noL' (noL hL) _))
 refine qdr ⟨[(2,.ptr 2 0),(3,.ptr 3 0),(5,iv (qil a b))],[(2,.box (lift false (mtD a))),(3,.box (lift false (mtD b)))]⟩ ?_ ?_
 ·refine qd (qb (zX E (zA E (qj E E E E) (zK (qo E (fun c3=>?_) (fun c3=>?_))))))
  ·simp only[↓cqA,cqB]at c3
   refine qb (zA E (qe E qae E) (zA E (qe E qak E) (zA E (qi E qQ E E E E E) (zA E (qe E qae E) (zA E (qe E qak E) (zA E (qi E qQ E E E E E) (qH (avs:=[_,_]) true E E E zD qce E E (qf1 _ _) E E (zX E (qc ?_)))))))))
   exact qaC (qC (zC E (zC E (SubT.cons (qaw E (by first|exact qan (if_pos c3).symm|exact qan (if_neg c3).symm)) SubT.nil))) (SubO.cons (qU E (by rfl)) (SubO.cons (qU E (by rfl)) SubO.nil)) E E (noL' (noL hL) _))
  simp only[↓cqA,cqB]at c3
  refine qr ?_
  exact qaC (qC (zC E (zC E (SubT.cons (qaw E (by first|exact qan (if_pos c3).symm|exact qan (if_neg c3).symm)) SubT.nil))) (SubO.cons (qU E (by rfl)) (SubO.cons (qU E (by rfl)) SubO.nil)) E E (noL' (noL hL) _))
 refine qdr ⟨[(2,.ptr 2 0),(3,.ptr 3 0),(5,iv (or2 (qil a b) (cmpZ qef a.b b.b)))],[(2,.box (lift false (mtD a))),(3,.box (lift false (mtD b)))]⟩ ?_ ?_
 ·refine qd (qb (zX E (zK (qv (qci (α:=Int) (a.b.length) (fun k n=>k≤a.b.length∧k≤b.b.length∧((qil a b=0∧((n=0∧∀ (j:Nat) (x y:Bd),j<k→a.b[j]?=some x→b.b[j]?=some y→qef x y=0)∨(n≠0∧n=cmpZ qef a.b b.b)))∨(qil a b≠0∧n=qil a b))) (fun k n=>⟨[(2,.ptr 2 0),(3,.ptr 3 0),(5,iv n),(7,iv (k:Int))],[(2,.box (lift false (mtD a))),(3,.box (lift false (mtD b)))]⟩) (qil a b) (⟨by omega,by omega,by by_cases h:qil a b=0<;>simp [h]⟩) ?_ (fun k n hk hp=>?_))))))
  ·exact zR hL (zC E (zC E (zC E (zC E SubT.nil)))) (SubO.cons (qU E (by rfl)) (SubO.cons (qU E (by rfl)) SubO.nil))
  refine qd (qd (qb (zX E (zA E (qe E qaH E) (zA E (qi E qaK E E E E E) (zA E (qu E qA E) (zA E (qj E E E E) ?_)))))));refine zX E (qE 69 E (fun g69=>?_) (fun g69=>?_))
  ·simp only[↓cqA,cqB]at g69
   refine zZ E (ql (.inl E) E) (zZ E (qe E qaH E) (zZ E (qi E qaK E E E E E) (zZ E (qu E qA E) (zZ E (qj E E E E) (zA E (qk E E E) (zX E (qE 76 E (fun g76=>?_) (fun g76=>?_))))))))
   ·simp only[↓cqA,cqB]at g76
    obtain ⟨u,hu⟩:=qM (l:=a.b) (k:=k) (by omega)
    obtain ⟨v,hv⟩:=qM (l:=b.b) (k:=k) (by omega)
    have hum:=List.mem_of_getElem? hu
    have hvm:=List.mem_of_getElem? hv
    have huw:=(wa u hum).2
    have hvw:=(wb v hvm).2
    refine zZ E (ql (.inl E) E) (zZ E (qj E E E E) (zA E (qk E E E) (zK (qo E (fun c4=>?_) (fun c4=>?_)))))
    ·simp only[↓cqA,cqB]at c4
     refine qr (qa (qd (qv (qd (qd (qX 12 mixed E E E E (zU E (qe E qaH E) ?_)))))));refine zU E (qi E qaK E E E E E) (zU E (ql (.inl E) E) (zU E (qp E qA E E zO (qbj hu)) (zU E (qJ E qa5 E) (zU E (qW E qar E) (zU E (qe E qaH E) (zU E (qi E qaK E E E E E) (zU E (ql (.inl E) E) (zU E (qp E qA E E zO (qbj hv)) ?_))))))))
     refine zU E (qJ E qa5 E) (zU E (qW E qar E) (qaq ⟨rfl,rfl,?_⟩));refine zA E (qcH E E E E) (zK (qo E (fun c5=>?_) (fun c5=>?_)))
     ·have hlt:ltS u.name v.name=true:=c5
      refine qb (zX E (zK (qd (qd (qX 12 mixed E E E E (zU E (qe E qaH E) ?_))))));refine zU E (qi E qaK E E E E E) (zU E (ql (.inl E) E) (zU E (qp E qA E E zO (qbj hu)) (zU E (qJ E qa5 E) (zU E (qW E qar E) (zU E (qe E qaH E) (zU E (qi E qaK E E E E E) (zU E (ql (.inl E) E) (zU E (qp E qA E E zO (qbj hv)) ?_))))))))
      refine zU E (qJ E qa5 E) (zU E (qW E qar E) (qaq ⟨rfl,rfl,?_⟩));refine zA E (qcH E E E E) (zK (qo E (fun c6=>?_) (fun c6=>?_)))
      ·simp only[↓cqA,cqB]at c6
       have hne:¬ u.name=v.name:=by
        simp only [Bool.or_eq_false_iff] at c6
        intro h;have:=c6.2;simp [h] at this
       have hnl:ltS u.name v.name=false:=by
        simp only [Bool.or_eq_false_iff] at c6
        exact c6.1
       refine qb (zX E (zK (qd (qb (zX E (zA E (qj (r:=.bool false) E E E E) ?_))))));refine zK ?_
       refine qaA E (qr (qR (qa (qb (zX E (zA E (qO E E E zO) (zX E ?_)))))));refine zK ?_;refine ⟨?_,qef u v,?_,?_⟩
       ·omega
       ·have h3:qil a b=0∧((n=0∧∀ (j:Nat) (x y:Bd),j<k→a.b[j]?=some x→b.b[j]?=some y→qef x y=0)∨(n≠0∧n=cmpZ qef a.b b.b)):=by
         rcases hp.2.2 with h|⟨h1,h2⟩
         ·exact h
         ·exfalso;omega
        exact ⟨by omega,by omega,.inl ⟨h3.1,qhE h3.2 (by assumption) hu hv⟩⟩
       exact zR hL (zC E (zC E (SubT.cons (qaw E (by first|exact qan (qnJ hlt).symm|exact qan (qnL hlt hne).symm|exact qan (qnM hlt (hor.resolve_left (by rw [hlt];exact Bool.noConfusion))).symm|(exfalso;rw [hnl] at hlt;cases hlt)|(exfalso;omega))) (zC E SubT.nil)))) (SubO.cons (qU E (by rfl)) (SubO.cons (qU E (by rfl)) SubO.nil))
      simp only[↓cqA,cqB]at c6
      have hor:ltS u.name v.name=true∨u.name=v.name:=by
       have h:=c6
       simp only [Bool.or_eq_true,qip] at h
       exact h
      refine qr (qa (qd (qb (zX E (zA E (qj (r:=.bool false) E E E E) (zK ?_))))));refine qaA E (qr (qR (qa ?_)))
      refine qb (zX E (zA E (qO E E E zO) (zX E (zK ?_))));refine ⟨?_,qef u v,?_,?_⟩
      ·omega
      ·have h3:qil a b=0∧((n=0∧∀ (j:Nat) (x y:Bd),j<k→a.b[j]?=some x→b.b[j]?=some y→qef x y=0)∨(n≠0∧n=cmpZ qef a.b b.b)):=by
        rcases hp.2.2 with h|⟨h1,h2⟩
        ·exact h
        ·exfalso;omega
       exact ⟨by omega,by omega,.inl ⟨h3.1,qhE h3.2 (by assumption) hu hv⟩⟩
      exact zR hL (zC E (zC E (SubT.cons (qaw E (by first|exact qan (qnJ hlt).symm|exact qan (qnL hlt hne).symm|exact qan (qnM hlt (hor.resolve_left (by rw [hlt];exact Bool.noConfusion))).symm|(exfalso;rw [hnl] at hlt;cases hlt)|(exfalso;omega))) (zC E SubT.nil)))) (SubO.cons (qU E (by rfl)) (SubO.cons (qU E (by rfl)) SubO.nil))
     have hlt:ltS u.name v.name=false:=c5
     refine qr (qa (qd (qd (qX 12 mixed E E E E (zU E (qe E qaH E) (zU E (qi E qaK E E E E E) (zU E (ql (.inl E) E) ?_)))))));refine zU E (qp E qA E E zO (qbj hu)) (zU E (qJ E qa5 E) (zU E (qW E qar E) (zU E (qe E qaH E) (zU E (qi E qaK E E E E E) (zU E (ql (.inl E) E) (zU E (qp E qA E E zO (qbj hv)) (zU E (qJ E qa5 E) ?_)))))))
     refine zU E (qW E qar E) (qaq ⟨rfl,rfl,?_⟩);refine zA E (qcH E E E E) (zK (qo E (fun c6=>?_) (fun c6=>?_)))
     ·simp only[↓cqA,cqB]at c6
      have hne:¬ u.name=v.name:=by
       simp only [Bool.or_eq_false_iff] at c6
       intro h;have:=c6.2;simp [h] at this
      have hnl:ltS u.name v.name=false:=by
       simp only [Bool.or_eq_false_iff] at c6
       exact c6.1
      refine qb (zX E (zK (qd (qb (zX E (zA E (qj (r:=.bool false) E E E E) ?_))))));refine zK ?_
      refine qaA E (qr (qR (qa (qb (zX E (zA E (qO E E E zO) (zX E ?_)))))));refine zK ?_;refine ⟨?_,qef u v,?_,?_⟩
      ·omega
      ·have h3:qil a b=0∧((n=0∧∀ (j:Nat) (x y:Bd),j<k→a.b[j]?=some x→b.b[j]?=some y→qef x y=0)∨(n≠0∧n=cmpZ qef a.b b.b)):=by
        rcases hp.2.2 with h|⟨h1,h2⟩
        ·exact h
        ·exfalso;omega
       exact ⟨by omega,by omega,.inl ⟨h3.1,qhE h3.2 (by assumption) hu hv⟩⟩
      exact zR hL (zC E (zC E (SubT.cons (qaw E (by first|exact qan (qnJ hlt).symm|exact qan (qnL hlt hne).symm|exact qan (qnM hlt (hor.resolve_left (by rw [hlt];exact Bool.noConfusion))).symm|(exfalso;rw [hnl] at hlt;cases hlt)|(exfalso;omega))) (zC E SubT.nil)))) (SubO.cons (qU E (by rfl)) (SubO.cons (qU E (by rfl)) SubO.nil))
     simp only[↓cqA,cqB]at c6
     have hor:ltS u.name v.name=true∨u.name=v.name:=by
      have h:=c6
      simp only [Bool.or_eq_true,qip] at h
      exact h
     refine qr (qa (qd (qb (zX E (zA E (qj E E E E) (zK ?_))))));refine qo E (fun c7=>?_) (fun c7=>?_)
     ·simp only[↓cqA,cqB]at c7
      refine qX 12 mixed E E E E (zU E (qe E qaH E) (zU E (qi E qaK E E E E E) (zU E (ql (.inl E) E) (zU E (qp E qA E E zO (qbj hu)) (zU E (qJ E qbc E) (zU E (qD E qz E E) (zU E (qe E qaH E) (zU E (qi E qaK E E E E E) (zU E (ql (.inl E) E) (zU E (qp E qA E E zO (qbj hv)) (zU E (qJ E qbc E) (zU E (qD E qz E E) ?_))))))))))))
      refine qaq ⟨rfl,rfl,?_⟩;refine qH (avs:=[_,_]) true E E E zD qdD E E (qnc 5 u.t v.t (hd u hum) huw hvw) E E (zX E (qc (qR (qa (qb ?_)))))
      refine zX E (zA E (qO E E E zO) (zX E (zK ?_)));refine ⟨?_,qef u v,?_,?_⟩
      ·omega
      ·have h3:qil a b=0∧((n=0∧∀ (j:Nat) (x y:Bd),j<k→a.b[j]?=some x→b.b[j]?=some y→qef x y=0)∨(n≠0∧n=cmpZ qef a.b b.b)):=by
        rcases hp.2.2 with h|⟨h1,h2⟩
        ·exact h
        ·exfalso;omega
       exact ⟨by omega,by omega,.inl ⟨h3.1,qhE h3.2 (by assumption) hu hv⟩⟩
      exact zR hL (zC E (zC E (SubT.cons (qaw E (by first|exact qan (qnJ hlt).symm|exact qan (qnL hlt hne).symm|exact qan (qnM hlt (hor.resolve_left (by rw [hlt];exact Bool.noConfusion))).symm|(exfalso;rw [hnl] at hlt;cases hlt)|(exfalso;omega))) (zC E SubT.nil)))) (SubO.cons (qU E (by rfl)) (SubO.cons (qU E (by rfl)) SubO.nil))
     simp only[↓cqA,cqB]at c7
     refine qr (qR (qa (qb (zX E (zA E (qO E E E zO) (zX E (qc ?_)))))));refine qa ?_;refine ⟨?_,qef u v,?_,?_⟩
     ·omega
     ·have h3:qil a b=0∧((n=0∧∀ (j:Nat) (x y:Bd),j<k→a.b[j]?=some x→b.b[j]?=some y→qef x y=0)∨(n≠0∧n=cmpZ qef a.b b.b)):=by
       rcases hp.2.2 with h|⟨h1,h2⟩
       ·exact h
       ·exfalso;omega
      exact ⟨by omega,by omega,.inl ⟨h3.1,qhE h3.2 (by assumption) hu hv⟩⟩
     exact zR hL (zC E (zC E (SubT.cons (qaw E (by first|exact qan (qnJ hlt).symm|exact qan (qnL hlt hne).symm|exact qan (qnM hlt (hor.resolve_left (by rw [hlt];exact Bool.noConfusion))).symm|(exfalso;rw [hnl] at hlt;cases hlt)|(exfalso;omega))) (zC E SubT.nil)))) (SubO.cons (qU E (by rfl)) (SubO.cons (qU E (by rfl)) SubO.nil))
    simp only[↓cqA,cqB]at c4
    refine qV (qq (qq (qad ?_)))
    exact qaC (qC (zC E (zC E (SubT.cons (qaw E (by exact qan (qoX hp.2.2 zO))) SubT.nil))) (SubO.cons (qU E (by rfl)) (SubO.cons (qU E (by rfl)) SubO.nil)) E E (noL' (noL hL) _))
   simp only[↓cqA,cqB]at g76
   refine zY E (zY E (zA E (qk E E E) (zK (qaA E (qV (qq (qq (qad ?_))))))))
   exact qaC (qC (zC E (zC E (SubT.cons (qaw E (by exact qan (qoX hp.2.2 zO))) SubT.nil))) (SubO.cons (qU E (by rfl)) (SubO.cons (qU E (by rfl)) SubO.nil)) E E (noL' (noL hL) _))
  simp only[↓cqA,cqB]at g69
  refine zY E (zY E (zY E (zY E (zY E (zA E (qk E E E) ?_)))))
  refine zX E (zY E (zY E (zA E (qk E E E) (zK (qaA E (qV ?_))))));refine qq (qq (qad ?_))
  exact qaC (qC (zC E (zC E (SubT.cons (qaw E (by exact qan (qoX hp.2.2 zO))) SubT.nil))) (SubO.cons (qU E (by rfl)) (SubO.cons (qU E (by rfl)) SubO.nil)) E E (noL' (noL hL) _))
 refine qd (qd (qb (zX E (zA E (qj E E E E) (zK (qo E (fun c8=>?_) (fun c8=>?_)))))))
 ·simp only[↓cqA,cqB]at c8
  refine qb (zA E (qe E qaH E) (zA E (qi E qaK E E E E E) (zA E (qu E qA E) (zA E (qe E qaH E) (zA E (qi E qaK E E E E E) (zA E (qu E qA E) ?_))))))
  refine qH (avs:=[_,_]) true E E E zD qce E E (qf1 _ _) E E (zX E (zK (qd (qb (zX E (zX E ?_))))));refine zK (qn (zI hL (qg E qh) ?_ ?_))
  ·rfl
  refine ⟨qbx ?_,rfl⟩
  rw [qp0]
  first
   | (rw [l3,l4];exact (if_pos c8).symm)
   | exact (if_neg c8).symm
 simp only[↓cqA,cqB]at c8
 refine qr (qa (qd (qb (zX E (zX E (zK ?_))))));refine qn (zI hL (qg E qh) ?_ ?_)
 ·rfl
 refine ⟨qbx ?_,rfl⟩
 rw [qp0]
 first
  | (rw [l3,l4];exact (if_pos c8).symm)
  | exact (if_neg c8).symm
end Go.Proofs.YtpgceiijoedppaaGreat