/- Part 12 of the proof: Fb. -/
import Derived.Test.YtpgceiijoedppaaGreatC11
set_option linter.unusedVariables false
set_option linter.unusedSimpArgs false
set_option maxRecDepth 8000
namespace Go.Proofs.YtpgceiijoedppaaGreat
open Go
structure qh0 (B:Bool)(caps:List AV)(Os:Nat→List (Nat×Ob)):Prop where
 dom:∀ k l,inD (Os k) l=inD (Os 0) l
 pass:∀ k,qle B (Os k) (Os k)
 cvs:∀ k,AV.cvs B (Os k) (inD (Os k)) caps=caps
 cvs0:∀ k,AV.cvs B (Os k) (inD (Os k)) caps=caps
 all:∀ k,AV.allLs (inD (Os k)) caps=true
 self:∀ k,allO (inD (Os k)) (Os k)=true
 q:B=true→∀ k,qov (fun f=>f) (Os k)=true
theorem qh0.nil (B:Bool)(caps:List AV)(h:AV.cvs B [] (inD []) caps=caps)(k:AV.allLs (inD []) caps=true):qh0 B caps (fun _=>[]) where
 dom _ _:=rfl
 pass _:=qle.nil
 cvs _:=h
 cvs0 _:=h
 all _:=k
 self _:=rfl
 q _ _:=rfl
theorem qlg (B:Bool)(ts:List Tm)(es:List (List D))(hes:es=ts.map tmD)(hlen:ts.length≤140737488351232)(g:FuncId)(caps:List AV)(hen:qY Tryz.prog g)(Os:Nat→List (Nat×Ob))(p:Nat→Bool)(hO:qh0 B caps Os)
  (hstep:∀ k u,ts[k]?=some u→(∀ j,j<k→p j=false)→AC Tryz.prog g (tmA false u::caps) (Os k) (fun r O=>r=bv (p k)∧O=Os (k+1))):
  AC Tryz.prog 274 [.dat false 4 es,.fn g caps] (Os 0) (fun r O=>∃ m n i,m≤ts.length∧(∀ j,j<m→p j=false)∧((m<ts.length∧p m=true∧i=(m:Int)∧n=m+1)∨(m=ts.length∧i=-1∧n=m))∧r=iv i∧O=Os n):=by
 have hl:es.length=ts.length:=by rw [hes,List.length_map]
 refine qI Tryz.func274 E Tryz.ntmps274 zL fun c hL hQ hDD=>(qd (qb (zX E (zK (qd (qd ?_))))));refine qb (zX E (zA E (qu E qN E) (zX E (zK (qv (qac (ts.length) (fun k=>k≤ts.length∧∀ j,j<k→p j=false) (fun k=>⟨[(0,.dat false 4 es),(1,.fn g caps),(7,iv es.length),(8,iv (k:Int))],Os k⟩) (⟨by omega,fun j hj=>absurd hj zO⟩) ?_ (fun k hk hp=>?_)))))))
 ·exact qC (zC E (zC E (zC E (zC E SubT.nil)))) (fun _ _ h=>h) (by simp [allT,AV.allL,hO.all]) (hO.self _) (fun l hl=>by rw [hO.dom];exact (hL l).1 hl)
 refine qd (qb (zA E (qj E E E E) (zK (qd (qo E (fun c0=>?_) (fun c0=>?_))))))
 ·simp only[↓cqA,cqB]at c0
  obtain ⟨u,hu⟩:=qM (l:=ts) (k:=k) (by omega)
  refine qr (qa (qd (qv (qd (qb (zX E (zX E ?_)))))));refine zK (qd (qb (zX E (zX E (zX E ?_)))))
  refine zA E (qp E qN E E zO (by rw [hes,List.getElem?_map];exact congrArg (Option.map tmD) hu)) ?_;refine zA E (qD E qz E E) ?_;refine qag (avs:=[_]) B E E E zD hen E E (hstep k u hu hp.2) (by rw [List.cons_append,List.nil_append];simp only [AV.cvs,hO.cvs];rfl) (hO.pass k) (by rintro r O' ⟨_,rfl⟩ l hl;left;rw [hO.dom] at hl ⊢;exact hl) (by rintro hB r O' ⟨rfl,rfl⟩;exact ⟨rfl,hO.q hB _⟩) ?_
  rintro r O' ⟨rfl,rfl⟩
  refine zK (qo E (fun c1=>?_) (fun c1=>?_))
  ·refine qd (qb (zX E (zX E (zK (qn (qP (qm (qm (qP (qm ?_))))))))))
   change retQ _ _ _ _ _ _ _
   refine retO (.inl E) (qg E qh) SubO.left rfl (hO.self _) (fun l hl=>by rw [hO.dom];exact (hL l).1 hl) ?_
   exact ⟨k,_,_,by omega,hp.2,.inl ⟨by omega,c1,rfl,rfl⟩,rfl,rfl⟩
  refine qr (qR (qa (qb (zA E (qO E E E zO) (zX E (zK ?_))))));refine ⟨?_,?_,?_⟩
  ·omega
  ·refine ⟨by omega,fun j hj=>?_⟩
   by_cases hjk:j<k
   ·exact hp.2 j hjk
   ·rw [show j=k by omega];exact c1
  exact qC (zC E (zC E (zC E (zC E SubT.nil)))) (SubO.left) (by simp [allT,AV.allL,hO.all]) (hO.self _) (fun l hl=>by rw [hO.dom];exact (hL l).1 hl)
 simp only[↓cqA,cqB]at c0
 refine qV (qq (qq (qad ?_)));refine qa (qd (qb (zX E (zK (qn ?_)))))
 change retQ _ _ _ _ _ _ _
 refine retO (.inl E) (qg E qh) (fun _ _ h=>h) E (hO.self _) (fun l hl=>by rw [hO.dom];exact (hL l).1 hl) ?_
 exact ⟨k,_,_,by omega,hp.2,.inr ⟨by omega,rfl,rfl⟩,rfl,rfl⟩
theorem qi1 (B:Bool)(ts:List Tm)(es:List (List D))(hes:es=ts.map tmD)(hlen:ts.length≤140737488351232)(g:FuncId)(caps:List AV)(hen:qY Tryz.prog g)(Os:Nat→List (Nat×Ob))(p:Nat→Bool)(hO:qh0 B caps Os)
  (hstep:∀ k u,ts[k]?=some u→(∀ j,j<k→p j=false)→AC Tryz.prog g (tmA false u::caps) (Os k) (fun r O=>r=bv (p k)∧O=Os (k+1))):
  AC Tryz.prog 226 [.dat false 4 es,.fn g caps] (Os 0) (fun r O=>∃ m n b,m≤ts.length∧(∀ j,j<m→p j=false)∧((m<ts.length∧p m=true∧b=true∧n=m+1)∨(m=ts.length∧b=false∧n=m))∧r=bv b∧O=Os n):=by
 refine qI Tryz.func226 E Tryz.ntmps226 zL fun c hL hQ hDD=>(qd (qb (zX E (zK (qd (qb ?_))))));refine zX E (zX E ?_)
 refine qag (avs:=[_,_]) B E E E zD qdP E E (qlg B ts es hes hlen g caps hen Os p hO hstep) (by simp only [List.append_nil,AV.cvs,AV.cv,hO.cvs];rfl) (hO.pass 0) (by rintro r O' ⟨m,n,i,_,_,_,_,rfl⟩ l hl;left;rw [hO.dom] at hl ⊢;exact hl) (by rintro hB r O' ⟨m,n,i,_,_,_,rfl,rfl⟩;exact ⟨rfl,hO.q hB _⟩) ?_
 rintro r O' ⟨m,n,i,hm,hf,hc,rfl,rfl⟩
 refine zA E (qj E E E E) (zX E (zK (qn ?_)))
 change retQ _ _ _ _ _ _ _
 refine retO (.inl E) (qg E qh) SubO.left rfl (hO.self _) (fun l hl=>by rw [hO.dom];exact (hL l).1 hl) ?_;refine ⟨m,n,_,hm,hf,?_,rfl,rfl⟩
 rcases hc with ⟨h1,h2,rfl,h3⟩|⟨h1,rfl,h3⟩
 ·exact .inl ⟨h1,h2,by simp,h3⟩
 ·exact .inr ⟨h1,by simp,h3⟩
def mayL (f:Tm→Int→Bool×Int):List Tm→Int→Bool×Int
 | [],n=>(true,n)
 | a::l,n=>if (f a n).1 then mayL f l (f a n).2 else (false,(f a n).2)
def mayS:Nat→Tm→Int→Bool×Int
 | 0,_,n=>(false,n-1)
 | d+1,t,n=>
   if n-1<0 then (false,n-1)
   else if t.kind=1 then (varB t.name&&decide (t.n=0)&&decide (t.args.length=0),n-1)
   else if t.kind=2 then (numB t.n&&decide (t.name.size=0)&&decide (t.args.length=0),n-1)
   else if t.kind=3 then (if qnP t.name&&decide (t.n=0)&&decide (t.args.length≤4) then mayL (mayS d) t.args (n-1) else (false,n-1))
   else (false,n-1)
theorem ql2 (f:Tm→Int→Bool×Int)(h:∀ t n,0≤n→-1≤(f t n).2∧(f t n).2≤n∧((f t n).1=true→0≤(f t n).2)):∀ (l:List Tm) (n:Int),0≤n→-1≤(mayL f l n).2∧(mayL f l n).2≤n∧((mayL f l n).1=true→0≤(mayL f l n).2)
 | [],n,hn=>by simp [mayL];omega
 | a::l,n,hn=>by
   have h1:=h a n hn
   simp only [mayL]
   split
   ·rename_i hb
    have:=ql2 f h l (f a n).2 (h1.2.2 hb)
    exact ⟨this.1,by omega,this.2.2⟩
   ·exact ⟨h1.1,h1.2.1,by simp⟩
theorem qfe:∀ (d:Nat) (t:Tm) (n:Int),0≤n→-1≤(mayS d t n).2∧(mayS d t n).2≤n∧((mayS d t n).1=true→0≤(mayS d t n).2)
 | 0,t,n,hn=>by simp [mayS];omega
 | d+1,t,n,hn=>by
   simp only [mayS]
   split
   ·simp;omega
   split
   ·simp;omega
   split
   ·simp;omega
   split
   ·split
    ·have:=ql2 (mayS d) (fun t n hn=>qfe d t n hn) t.args (n-1) (by omega)
     exact ⟨this.1,by omega,this.2.2⟩
    ·simp;omega
   ·simp;omega
def qmK (f:Tm→Int→Bool×Int):Nat→List Tm→Int→Int
 | 0,_,n=>n
 | _+1,[],n=>n
 | k+1,a::l,n=>qmK f k l (f a n).2
def mayK (f:Tm→Int→Bool×Int)(l:List Tm)(n:Int)(k:Nat):Int:=qmK f k l n
def mayP (f:Tm→Int→Bool×Int):List Tm→Int→Nat→Bool
 | [],_,_=>false
 | a::_,n,0=>!(f a n).1
 | a::l,n,k+1=>mayP f l (f a n).2 k
theorem qhc (f:Tm→Int→Bool×Int):∀ (l:List Tm) (n:Int) (k:Nat) (u:Tm),l[k]?=some u→(∀ j,j<k→mayP f l n j=false)→mayP f l n k=!(f u (mayK f l n k)).1∧mayK f l n (k+1)=(f u (mayK f l n k)).2
 | [],n,k,u,hu,_=>by simp at hu
 | a::l,n,0,u,hu,_=>by
   simp only [List.getElem?_cons_zero,Option.some.injEq] at hu
   subst hu
   cases l<;>simp [mayP,mayK,qmK]
 | a::l,n,k+1,u,hu,h=>by
   simpa only [mayP,mayK,qmK] using qhc f l (f a n).2 k u (by simpa using hu) (fun j hj=>by simpa [mayP] using h (j+1) (by omega))
theorem qf4 (f:Tm→Int→Bool×Int)(h:∀ t n,0≤n→-1≤(f t n).2∧(f t n).2≤n∧((f t n).1=true→0≤(f t n).2)):∀ (l:List Tm) (n:Int) (k:Nat),0≤n→(∀ j,j<k→mayP f l n j=false)→k≤l.length→0≤mayK f l n k∧mayK f l n k≤n
 | l,n,0,hn,_,_=>by cases l<;>simp [mayK,qmK]<;>omega
 | [],n,k+1,hn,_,hk=>by simp at hk
 | a::l,n,k+1,hn,hj,hk=>by
   have h0:=hj 0 (by omega)
   simp only [mayP,Bool.not_eq_false'] at h0
   have h1:=h a n hn
   have:=qf4 f h l (f a n).2 k (h1.2.2 h0) (fun j hj'=>by simpa [mayP] using hj (j+1) (by omega)) (by simpa using hk)
   simp only [mayK,qmK] at this ⊢;omega
theorem qqb (f:Tm→Int→Bool×Int):∀ (l:List Tm) (n:Int) (m k:Nat) (b:Bool),(∀ j,j<m→mayP f l n j=false)→((m<l.length∧mayP f l n m=true∧b=true∧k=m+1)∨(m=l.length∧b=false∧k=m))→mayL f l n=(!b,mayK f l n k)
 | [],n,m,k,b,_,hc=>by
   rcases hc with ⟨h,_⟩|⟨rfl,rfl,rfl⟩
   ·simp at h
   ·simp [mayL,mayK,qmK]
 | a::l,n,0,k,b,_,hc=>by
   rcases hc with ⟨_,h,rfl,rfl⟩|⟨h,_⟩
   ·simp only [mayP,Bool.not_eq_true'] at h
    cases l<;>simp [mayL,mayK,qmK,h]
   ·simp at h
 | a::l,n,m+1,k,b,hj,hc=>by
   have h0:=hj 0 (by omega)
   simp only [mayP,Bool.not_eq_false'] at h0
   obtain ⟨k,rfl⟩:∃ k',k=k'+1:=by rcases hc with ⟨_,_,_,rfl⟩|⟨_,_,rfl⟩<;>exact ⟨_,rfl⟩
   have:=qqb f l (f a n).2 m k b (fun j hj'=>by simpa [mayP] using hj (j+1) (by omega)) (by
    rcases hc with ⟨h1,h2,h3,h4⟩|⟨h1,h2,h3⟩
    ·exact .inl ⟨by simpa using h1,by simpa [mayP] using h2,h3,by omega⟩
    ·exact .inr ⟨by simpa using h1,h2,by omega⟩)
   simp only [mayL,h0,if_true,this,mayK,qmK]
def MayC (d:Nat):Prop:=∀ (e:Int),e=d→∀ (t:Tm) (n:Int),t.wf→0≤n→n≤24→AC Tryz.prog 165 [tmA false t,iv e,.ptr 0 0] [(0,.box [iv n])] (fun r O=>r=bv (mayS d t n).1∧O=[(0,.box [iv (mayS d t n).2])])
theorem qmL (d:Nat)(hd:d<5)(ih:MayC d)(e:Int)(he:e=d+1)(t:Tm)(n:Int)(ht:t.wf)(h0:0≤n)(h1:n≤24):AC Tryz.prog 224 [tmA false t,.ptr 4 0,.ptr 5 0] [(4,.box [iv e]),(5,.box [.ptr 0 0]),(0,.box [iv n])]
  (fun r O=>r=bv (!(mayS d t n).1)∧O=[(4,.box [iv e]),(5,.box [.ptr 0 0]),(0,.box [iv (mayS d t n).2])]):=by
 refine qI Tryz.func224 E Tryz.ntmps224 zL fun c hL hQ hDD=>(qd (qb (qt E E zD (q6 3 E E E) E (zX E (zK (qd ?_))))));refine qb (zA E (qF E qz E E E E) (zA E (qi E qQ E E E E E) ?_))
 refine zA E (qa3 E E E zO) ?_;refine zA E (qi E qgl E E E E E) ?_;refine qag (avs:=[_,_,_]) true E E E zD qk3 E E (ih (e-1) zO t n ht h0 h1) E (qbQ (.cons E trivial E .nil)) (by rintro r O' ⟨rfl,rfl⟩ l hl;exact .inl ((qdN (by rfl) l).trans hl)) (by rintro-r O' ⟨rfl,rfl⟩;exact ⟨rfl,rfl⟩) ?_
 rintro r O' ⟨rfl,rfl⟩
 refine zA E (qaB E E) (zX E (zK (qn ?_)))
 change retQ _ _ _ _ _ _ _
 refine retO (O':=[(4,_),(5,_),(0,_)]) (.inl E) (qg E qh) (SubO.cons E (SubO.cons E (SubO.cons E SubO.nil))) ?_ ?_ ?_ ?_
 ·rfl
 ·rfl
 ·exact LO hL E
 ·exact ⟨rfl,rfl⟩
theorem qf3 {D:Nat}{t:Tm}{n m:Int}{b:Bool}(h:mayS D t n=(b,m)):resV [bv b]=bv (mayS D t n).1∧[(0,Ob.box [iv m])]=[(0,Ob.box [iv (mayS D t n).2])]:=by rw [h];exact ⟨rfl,rfl⟩
theorem may_ok:∀ d:Nat,d≤5→MayC d:=by
  intro d
  induction d with
  | zero=>
    intro hd e he t n ht h0 h1
    refine qI Tryz.func165 E Tryz.ntmps165 zL fun c hL hQ hDD=>(qd (qb (qt E E zD (q6 3 E E E) E (qt E E zD (q6 4 E E E) E (qt E E zD (q6 5 E E E) E (zX E (qc ?_)))))));refine qa (qd (qb (zA E (qi E qgl E E E E E) ?_)))
    refine zA E (qda E E) (zA E (qi E qQ E E E E E) (zA E (qa3 E E E zO) (zA E (qda E E) (qT E E E qQ E E E E E E E E E (zK (qd ?_))))));refine qd (qb (zA E (qi E qQ E E E E E) (zA E (qj E E E E) (zX E (qE 15 E (fun g15=>?_) (fun g15=>?_))))))
    · simp only[↓cqA,cqB]at g15
      refine zY E (zY E (zY E (zY E (zA E (qk E E E) (zK (qa2 E ?_))))));refine qd (qb (zX E (zK (qn (qm ?_)))))
      change retQ _ _ _ _ _ _ _
      refine retO (O':=[(0,_)]) (.inl E) (qg E qh) (SubO.cons E SubO.nil) ?_ ?_ ?_ ?_
      · rfl
      · rfl
      · exact LO hL E
      exact qf3 (by simp [mayS])
    simp only[↓cqA,cqB]at g15
    omega
  | succ d ih=>
    intro hd e he t n ht h0 h1
    have hlen:=qaY t.args
    have hal:=ht.2.2.2.1
    refine qI Tryz.func165 E Tryz.ntmps165 zL fun c hL hQ hDD=>(qd (qb (qt E E zD (q6 3 E E E) E (qt E E zD (q6 4 E E E) E (qt E E zD (q6 5 E E E) E (zX E (qc ?_)))))));refine qa (qd (qb (zA E (qi E qgl E E E E E) ?_)))
    refine zA E (qda E E) (zA E (qi E qQ E E E E E) (zA E (qa3 E E E zO) (zA E (qda E E) (qT E E E qQ E E E E E E E E E (zK (qd ?_))))));refine qd (qb (zA E (qi E qQ E E E E E) (zA E (qj E E E E) (zX E (qE 15 E (fun g15=>?_) (fun g15=>?_))))))
    · simp only[↓cqA,cqB]at g15
      omega
    simp only[↓cqA,cqB]at g15
    refine zZ E (qi E qgl E E E E E) (zZ E (qda E E) (zZ E (qi E qQ E E E E E) (zZ E (qj E E E E) (zA E (qk E E E) (zK (qo E (fun c0=>?_) (fun c0=>?_)))))))
    · simp only[↓cqA,cqB]at c0
      refine qd (qb (zX E (zK (qn (qm ?_)))))
      change retQ _ _ _ _ _ _ _
      refine retO (O':=[(0,_)]) (.inl E) (qg E qh) (SubO.cons E SubO.nil) ?_ ?_ ?_ ?_
      · rfl
      · rfl
      · exact LO hL E
      refine qf3 ?_
      rw [mayS,if_pos (by omega)]
    simp only[↓cqA,cqB]at c0
    refine qr (qa (qd (qd (qb (zA E (qe E qaL E) (zA E (qi E qQ E E E E E) (qc ?_)))))));refine qa (qv (qd (qb (zA E (qj E E E E) (zX E (zK ?_))))));refine qo E (fun c1=>?_) (fun c1=>?_)
    · simp only[↓cqA,cqB]at c1
      refine qd (qb (zA E (qe E qay E) (zA E (qi E qar E E E E E) (qH (avs:=[_]) true E E E zD qpf E E (Var_ok _) E E (zX E (qE 28 E (fun g28=>?_) (fun g28=>?_)))))))
      · refine zZ E (qe E qbb E) (zZ E (qi E qQ E E E E E) (zZ E (qj E E E E) (zA E (qk E E E) (zX E (qE 33 E (fun g33=>?_) (fun g33=>?_))))))
        · simp only[↓cqA,cqB]at g33
          refine zZ E (qe E qaa E) (zZ E (qi E q9 E E E E E) (zZ E (qu E qN E) (zZ E (qj E E E E) (zA E (qk E E E) (zX E (zK (qn (qP (qm ?_)))))))))
          change retQ _ _ _ _ _ _ _
          refine retO (O':=[(0,_)]) (.inl E) (qg E qh) (SubO.cons E SubO.nil) ?_ ?_ ?_ ?_
          · rfl
          · rfl
          · exact LO hL E
          refine qf3 ?_
          rw [mayS,if_neg (by omega)]
          simp_all [qeW]
          try (intro hx;omega)
        simp only[↓cqA,cqB]at g33
        refine zY E (zY E (zY E (zY E (zA E (qk E E E) (zX E (zK ?_))))));refine qn (qP (qm ?_))
        change retQ _ _ _ _ _ _ _
        refine retO (O':=[(0,_)]) (.inl E) (qg E qh) (SubO.cons E SubO.nil) ?_ ?_ ?_ ?_
        · rfl
        · rfl
        · exact LO hL E
        refine qf3 ?_
        rw [mayS,if_neg (by omega)]
        simp_all [qeW]
        try (intro hx;omega)
      refine zY E (zY E (zY E (zA E (qk E E E) (zX E (zY E ?_)))))
      refine zY E (zY E (zY E (zA E (qk E E E) (zX E (zK (qn ?_))))));refine qP (qm ?_)
      change retQ _ _ _ _ _ _ _
      refine retO (O':=[(0,_)]) (.inl E) (qg E qh) (SubO.cons E SubO.nil) ?_ ?_ ?_ ?_
      · rfl
      · rfl
      · exact LO hL E
      refine qf3 ?_
      rw [mayS,if_neg (by omega)]
      simp_all [qeW]
      try (intro hx;omega)
    simp only[↓cqA,cqB]at c1
    refine qd (qb (zA E (qj E E E E) (zX E (zK (qo E (fun c2=>?_) (fun c2=>?_))))))
    · simp only[↓cqA,cqB]at c2
      refine qd (qb (zA E (qe E qbb E) (zA E (qi E qQ E E E E E) (qH (avs:=[_]) true E E E zD qlu E E (qsP _) E E (zX E (qE 44 E (fun g44=>?_) (fun g44=>?_)))))))
      · refine zZ E (qe E qay E) (zZ E (qi E qar E E E E E) (zZ E (qcH E E E E) (zA E (qk E E E) (zX E (qE 49 E (fun g49=>?_) (fun g49=>?_))))))
        · simp only[↓cqA,cqB]at g49
          have g49:=qfV.2 g49
          refine zZ E (qe E qaa E) (zZ E (qi E q9 E E E E E) (zZ E (qu E qN E) (zZ E (qj E E E E) (zA E (qk E E E) (zX E (zK (qn (qP (qm ?_)))))))))
          change retQ _ _ _ _ _ _ _
          refine retO (O':=[(0,_)]) (.inl E) (qg E qh) (SubO.cons E SubO.nil) ?_ ?_ ?_ ?_
          · rfl
          · rfl
          · exact LO hL E
          refine qf3 ?_
          rw [mayS,if_neg (by omega)]
          simp_all [qeW]
          try (intro hx;omega)
        simp only[↓cqA,cqB]at g49
        have g49:¬ t.name.size=0:=mt qfV.1 g49
        refine zY E (zY E (zY E (zY E (zA E (qk E E E) (zX E (zK ?_))))));refine qn (qP (qm ?_))
        change retQ _ _ _ _ _ _ _
        refine retO (O':=[(0,_)]) (.inl E) (qg E qh) (SubO.cons E SubO.nil) ?_ ?_ ?_ ?_
        · rfl
        · rfl
        · exact LO hL E
        refine qf3 ?_
        rw [mayS,if_neg (by omega)]
        simp_all [qeW]
        try (intro hx;omega)
      refine zY E (zY E (zY E (zA E (qk E E E) (zX E (zY E ?_)))))
      refine zY E (zY E (zY E (zA E (qk E E E) (zX E (zK (qn ?_))))));refine qP (qm ?_)
      change retQ _ _ _ _ _ _ _
      refine retO (O':=[(0,_)]) (.inl E) (qg E qh) (SubO.cons E SubO.nil) ?_ ?_ ?_ ?_
      · rfl
      · rfl
      · exact LO hL E
      refine qf3 ?_
      rw [mayS,if_neg (by omega)]
      simp_all [qeW]
      try (intro hx;omega)
    simp only[↓cqA,cqB]at c2
    refine qd (qb (zA E (qj E E E E) (zX E (zK (qo E (fun c3=>?_) (fun c3=>?_))))))
    · simp only[↓cqA,cqB]at c3
      refine qd (qb (zA E (qdz (vs:=[_,_]) E E) (zX E (zK (qd (qb ?_))))));refine zA E (qe E qay E) (zA E (qi E qar E E E E E) (qH (avs:=[_]) true E E E zD qn8 E E (Name_ok _) E E (zX E (qE 61 E (fun g61=>?_) (fun g61=>?_)))))
      · refine zZ E (qe E qbb E) (zZ E (qi E qQ E E E E E) (zZ E (qj E E E E) (zA E (qk E E E) (zX E (qE 66 E (fun g66=>?_) (fun g66=>?_))))))
        · simp only[↓cqA,cqB]at g66
          refine zZ E (qe E qaa E) (zZ E (qi E q9 E E E E E) (zZ E (qu E qN E) (zZ E (qj E E E E) (zA E (qk E E E) (zX E (qE 72 E (fun g72=>?_) (fun g72=>?_)))))))
          · simp only[↓cqA,cqB]at g72
            have g72:t.args.length≤4:=by omega
            refine zZ E (qe E qaa E) (zZ E (qi E q9 E E E E E) (zZ E (ql (.inl E) E) ?_))
            have hst:∀ k u,t.args[k]?=some u→(∀ j,j<k→mayP (mayS d) t.args (n-1) j=false)→AC Tryz.prog 224 [tmA false u,.ptr 4 0,.ptr 5 0] [(4,.box [iv e]),(5,.box [.ptr 0 0]),(0,.box [iv (mayK (mayS d) t.args (n-1) k)])]
                (fun r O=>r=bv (mayP (mayS d) t.args (n-1) k)∧O=[(4,.box [iv e]),(5,.box [.ptr 0 0]),(0,.box [iv (mayK (mayS d) t.args (n-1) (k+1))])]):=fun k u hu hj=>by
              obtain ⟨e1,e2⟩:=qhc (mayS d) t.args (n-1) k u hu hj
              have hkl:k<t.args.length:=by have:=List.getElem?_eq_some_iff.1 hu;exact this.1
              have hr:=qf4 (mayS d) (fun t n hn=>qfe d t n hn) t.args (n-1) k (by omega) hj (by omega)
              rw [e1,e2]
              exact qmL d zO (ih zO) e zO u _ (Tm.wfs_get ht.2.2.2.2 hu) hr.1 zO
            refine qpq (avs:=[_,_]) true E E E zD E E zD qdt E E (qi1 true t.args _ (qeE _) zO _ [.ptr 4 0,.ptr 5 0] qmV (fun k=>[(4,.box [iv e]),(5,.box [.ptr 0 0]),(0,.box [iv (mayK (mayS d) t.args (n-1) k)])]) (mayP (mayS d) t.args (n-1)) ⟨fun k l=>qdN (by rfl) l,fun k=>qbQ (.cons E trivial E (.cons E trivial E (.cons E trivial E .nil))),fun k=>rfl,fun k=>rfl,fun k=>rfl,fun k=>rfl,fun _ k=>rfl⟩ (fun k u hu hj=>hst k u hu hj)) E (qbQ (.cons E trivial E (.cons E trivial E (.cons E trivial E .nil)))) (by rintro r O' ⟨m,k,b,_,_,_,_,rfl⟩ l hl;exact .inl ((qdN (by rfl) l).trans hl)) (by rintro-r O' ⟨m,k,b,_,_,_,rfl,rfl⟩;exact ⟨rfl,rfl⟩) ?_
            rintro r O' ⟨m,k,b,hm,hf,hc,rfl,rfl⟩
            refine zZ E (qaB E E) (zA E (qk E E E) (zX E (zK (qn (qP (qm ?_))))))
            change retQ _ _ _ _ _ _ _
            refine retO (O':=[(0,_)]) (.inl E) (qg E qh) (SubO.cons E SubO.nil) ?_ ?_ ?_ ?_
            · rfl
            · rfl
            · exact LO hL E
            refine qf3 ?_
            rw [mayS,if_neg (by omega)]
            simp_all
            exact qqb (mayS d) t.args (n-1) m k b hf hc
          simp only[↓cqA,cqB]at g72
          have g72:¬ t.args.length≤4:=by omega
          refine zY E (zY E (zY E ?_))
          have hst:∀ k u,t.args[k]?=some u→(∀ j,j<k→mayP (mayS d) t.args (n-1) j=false)→AC Tryz.prog 224 [tmA false u,.ptr 4 0,.ptr 5 0] [(4,.box [iv e]),(5,.box [.ptr 0 0]),(0,.box [iv (mayK (mayS d) t.args (n-1) k)])]
              (fun r O=>r=bv (mayP (mayS d) t.args (n-1) k)∧O=[(4,.box [iv e]),(5,.box [.ptr 0 0]),(0,.box [iv (mayK (mayS d) t.args (n-1) (k+1))])]):=fun k u hu hj=>by
            obtain ⟨e1,e2⟩:=qhc (mayS d) t.args (n-1) k u hu hj
            have hkl:k<t.args.length:=by have:=List.getElem?_eq_some_iff.1 hu;exact this.1
            have hr:=qf4 (mayS d) (fun t n hn=>qfe d t n hn) t.args (n-1) k (by omega) hj (by omega)
            rw [e1,e2]
            exact qmL d zO (ih zO) e zO u _ (Tm.wfs_get ht.2.2.2.2 hu) hr.1 zO
          refine zY E (zY E (zA E (qk E E E) (zX E (zK (qn (qP (qm ?_)))))))
          change retQ _ _ _ _ _ _ _
          refine retO (O':=[(0,_)]) (.inl E) (qg E qh) (SubO.cons E SubO.nil) ?_ ?_ ?_ ?_
          · rfl
          · rfl
          · exact LO hL E
          refine qf3 ?_
          rw [mayS,if_neg (by omega)]
          simp_all [qeW]
          try (intro hx;omega)
        simp only[↓cqA,cqB]at g66
        refine zY E (zY E (zY E (zY E (zA E (qk E E E) (zX E (zY E (zY E ?_)))))));refine zY E ?_
        have hst:∀ k u,t.args[k]?=some u→(∀ j,j<k→mayP (mayS d) t.args (n-1) j=false)→AC Tryz.prog 224 [tmA false u,.ptr 4 0,.ptr 5 0] [(4,.box [iv e]),(5,.box [.ptr 0 0]),(0,.box [iv (mayK (mayS d) t.args (n-1) k)])]
            (fun r O=>r=bv (mayP (mayS d) t.args (n-1) k)∧O=[(4,.box [iv e]),(5,.box [.ptr 0 0]),(0,.box [iv (mayK (mayS d) t.args (n-1) (k+1))])]):=fun k u hu hj=>by
          obtain ⟨e1,e2⟩:=qhc (mayS d) t.args (n-1) k u hu hj
          have hkl:k<t.args.length:=by have:=List.getElem?_eq_some_iff.1 hu;exact this.1
          have hr:=qf4 (mayS d) (fun t n hn=>qfe d t n hn) t.args (n-1) k (by omega) hj (by omega)
          rw [e1,e2]
          exact qmL d zO (ih zO) e zO u _ (Tm.wfs_get ht.2.2.2.2 hu) hr.1 zO
        refine zY E (zY E (zA E (qk E E E) (zX E (zK (qn (qP (qm ?_)))))))
        change retQ _ _ _ _ _ _ _
        refine retO (O':=[(0,_)]) (.inl E) (qg E qh) (SubO.cons E SubO.nil) ?_ ?_ ?_ ?_
        · rfl
        · rfl
        · exact LO hL E
        refine qf3 ?_
        rw [mayS,if_neg (by omega)]
        simp_all [qeW]
        try (intro hx;omega)
      refine zY E (zY E (zY E (zA E (qk E E E) (zX E (zY E (zY E (zY E (zY E (zA E (qk E E E) (zX E (zY E (zY E (zY E ?_)))))))))))))
      have hst:∀ k u,t.args[k]?=some u→(∀ j,j<k→mayP (mayS d) t.args (n-1) j=false)→AC Tryz.prog 224 [tmA false u,.ptr 4 0,.ptr 5 0] [(4,.box [iv e]),(5,.box [.ptr 0 0]),(0,.box [iv (mayK (mayS d) t.args (n-1) k)])]
          (fun r O=>r=bv (mayP (mayS d) t.args (n-1) k)∧O=[(4,.box [iv e]),(5,.box [.ptr 0 0]),(0,.box [iv (mayK (mayS d) t.args (n-1) (k+1))])]):=fun k u hu hj=>by
        obtain ⟨e1,e2⟩:=qhc (mayS d) t.args (n-1) k u hu hj
        have hkl:k<t.args.length:=by have:=List.getElem?_eq_some_iff.1 hu;exact this.1
        have hr:=qf4 (mayS d) (fun t n hn=>qfe d t n hn) t.args (n-1) k (by omega) hj (by omega)
        rw [e1,e2]
        exact qmL d zO (ih zO) e zO u _ (Tm.wfs_get ht.2.2.2.2 hu) hr.1 zO
      refine zY E (zY E (zA E (qk E E E) (zX E (zK (qn (qP (qm ?_)))))))
      change retQ _ _ _ _ _ _ _
      refine retO (O':=[(0,_)]) (.inl E) (qg E qh) (SubO.cons E SubO.nil) ?_ ?_ ?_ ?_
      · rfl
      · rfl
      · exact LO hL E
      refine qf3 ?_
      rw [mayS,if_neg (by omega)]
      simp_all [qeW]
      try (intro hx;omega)
    simp only[↓cqA,cqB]at c3
    refine qr (qR (qa (qd (qb (zX E (zK ?_))))));refine qn ?_
    change retQ _ _ _ _ _ _ _
    refine retO (O':=[(0,_)]) (.inl E) (qg E qh) (SubO.cons E SubO.nil) ?_ ?_ ?_ ?_
    · rfl
    · rfl
    · exact LO hL E
    refine qf3 ?_
    rw [mayS,if_neg (by omega)]
    simp_all [qeW]
    try (intro hx;omega)
def mayT (t:Tm):Bool:=(mayS 5 t 24).1
theorem qsQ (t:Tm)(ht:t.wf):PF 110 [tmA false t] (bv (mayT t)):=by
 have key:=qc0 0 3 (may_ok 5 (by omega) 5 E t 24 ht (by omega) (by omega))
 refine qI Tryz.func110 E Tryz.ntmps110 zL fun c hL hQ hDD=>(qd (qb (qt E E zD (q6 1 E E E) E (zX E (zK (qd ?_))))));refine qb (qt E E zD (qat 3 E qhR E) E (qT E E E qQ E E E E E E E E E (zK (qd (qb ?_)))))
 refine zA E (qF E qz E E E E) ?_;refine qag (avs:=[_,_,_]) true E E E zD qk3 E E (key) E (qbQ (.cons E trivial E .nil)) (by rintro r O' ⟨rfl,rfl⟩ l hl;exact .inl ((qdN (by rfl) l).trans hl)) (by rintro-r O' ⟨rfl,rfl⟩;exact ⟨rfl,rfl⟩) ?_
 rintro r O' ⟨rfl,rfl⟩
 refine zX E (zK (qn (zI hL (qg E qh) ?_ ?_)))
 ·rfl
 exact ⟨rfl,rfl⟩
end Go.Proofs.YtpgceiijoedppaaGreat