/- Part 45 of the proof: Oe. -/
import Derived.Test.YtpgceiijoedppaaGreatC44
set_option linter.unusedVariables false
set_option linter.unusedSimpArgs false
set_option maxRecDepth 8000
namespace Go.Proofs.YtpgceiijoedppaaGreat
open Go
variable {l:List Kp}{p:Pt}
def metV (l:List Kp)(p:Pt):List Mt:=if (qcA l&&okP p)=true then (if (mAll 8 l p).2=true then (mAll 8 l p).1 else []) else []
def metE (l:List Kp)(p:Pt):Int:=if (qcA l&&okP p)=true then (if (mAll 8 l p).2=true then 0 else 2) else 1
theorem metE_ne (h:¬ metE l p=0):metV l p=[]:=by
 rw [metE] at h;rw [metV]
 split
 ·rename_i h1
  rw [if_pos h1] at h
  split
  ·rename_i h2;rw [if_pos h2] at h;exact absurd E h
  ·rfl
 ·rfl
theorem qsa (hw:∀ k∈l,k.wf)(hp:p.wf):(metV l p).length≤1000∧∀ m∈metV l p,MOk (2 ^ 8) m:=by
 rw [metV]
 split
 ·rename_i h1
  simp only [Bool.and_eq_true] at h1
  have hpat:=((qh9 p).1 h1.2).1
  split
  ·rename_i h2
   exact ⟨(qfl (qhd h1.1) hw 8 p hp hpat).resolve_right (by rw [h2];exact Bool.noConfusion),qcs (qhd h1.1) hw 8 p hp hpat⟩
  ·exact ⟨by simp,fun m hm=>by cases hm⟩
 ·exact ⟨by simp,fun m hm=>by cases hm⟩
theorem qgx (l:List Kp)(hw:∀ k∈l,k.wf)(p:Pt)(hp:p.wf):AC Tryz.prog 128 [.dat false 7 (kpDs l),ptA false p] [] (fun r O=>r=.tup [.row 6,iv (metE l p)]∧O=[(6,.rowd 55 4 true (mtDs (metV l p)))]):=
 qnk (qq1 l hw p hp) fun r O ⟨X,hX,e1,e2⟩=>by subst hX;exact ⟨e1,e2⟩
theorem qsL (n k:Int):AC Tryz.prog 198 [iv k,.ptr 13 0] [(13,.box [iv n])] (fun r O=>r=bv (decide (k≥n))∧O=[(13,.box [iv n])]):=by
 refine qI Tryz.func198 E Tryz.ntmps198 zL fun c hL hQ hDD=>(qd (qb (zX E (zK (qd (qb ?_))))));refine zX E (zA E (qi E qQ E E E E E) (zA E (qj E E E E) (zX E (zK (qn ?_)))))
 change retQ _ _ _ _ _ _ _
 refine retO (O':=[(13,_)]) (.inl E) (qg E qh) (SubO.cons E SubO.nil) ?_ ?_ (LO hL E) ?_
 ·rfl
 ·rfl
 exact ⟨rfl,rfl⟩
theorem With1_ok (n:Int)(m:Mt)(hm:m.u.length≤1000000):AC Tryz.prog 197 [mtA m,.ptr 13 0] [(13,.box [iv n])] (fun r O=>r=bv (!(newM n m))∧O=[(13,.box [iv n])]):=by
 refine qI Tryz.func197 E Tryz.ntmps197 zL fun c hL hQ hDD=>(qd (qb (qt E E zD (q6 2 E E E) E (zX E (zK (qd ?_))))));refine qb (zA E (qe E qaV E) (zA E (qi E qbZ E E E E E) (zA E (qdz (vs:=[_]) E E) ?_)))
 refine qag (avs:=[_,_]) false E E E zD qeP E E (qi4 false m.u _ E zO _ [.ptr 13 0] qjL (fun _=>[(13,.box [iv n])]) (hitB (fun k=>decide (k≥n)) m.u) ⟨fun k l=>rfl,fun k=>qbQ (.cons E trivial E .nil),fun k=>rfl,fun k=>rfl,fun k=>rfl,fun k=>rfl,fun h=>by cases h⟩ (fun k x hx _=>by rw [qmP hx];exact qsL n x)) E (qbQ (.cons E trivial E .nil)) (by rintro r O' ⟨j,i,bb,_,_,_,_,rfl⟩;exact frB E) (by rintro h;cases h) ?_
 rintro r O' ⟨j,i,bb,hm1,hf1,hcc,rfl,rfl⟩
 have hany:=any_of hf1 hcc
 refine zA E (qaB E E) (zX E (zK (qn ?_)))
 change retQ _ _ _ _ _ _ _
 refine retO (O':=[(13,_)]) (.inl E) (qg E qh) (SubO.cons E SubO.nil) ?_ ?_ (LO hL E) ?_
 ·rfl
 ·rfl
 exact ⟨q7 (by rw [hany];rfl),rfl⟩
theorem qjR (n:Int)(ts:List Mt)(hlen:ts.length≤1000000000)(cap:Nat)(A:List (Option (List D)))(hA:∀ (q:Nat) (x:Mt),ts[q]?=some x→A[q]?=some (some (mtD x)))(p:Mt→Bool)
  (hstep:∀ u∈ts,AC Tryz.prog 197 (mtA u::[.ptr 13 0]) [(13,.box [iv n])] (fun r O=>r=bv (p u)∧O=[(13,.box [iv n])])):
  AC Tryz.prog 113 [.vw 0 0 ts.length cap,.fn 197 [.ptr 13 0]] ((0,.arr 55 4 false A)::[(13,.box [iv n])]) (fun r O=>∃ (m:Nat) (i:Int),(m≤ts.length∧∀ x∈ts.take m,p x=false)∧((m<ts.length∧(∃ x,ts[m]?=some x∧p x=true)∧i=m)∨(m=ts.length∧i=-1))∧r=iv i∧O=(0,.arr 55 4 false A)::[(13,.box [iv n])]):=by
 refine qI Tryz.func113 E Tryz.ntmps113 zL fun c hL hQ hDD=>(qd (qb (zX E (zK (qd (qd ?_))))));refine qb (zX E (zA E (qcy E qw E) (zX E (zK (qv (qac (ts.length) (fun k=>k≤ts.length∧∀ x∈ts.take k,p x=false) (fun k=>⟨[(0,.vw 0 0 ts.length cap),(1,.fn 197 [.ptr 13 0]),(7,iv (ts.length:Int)),(8,iv (k:Int))],[(0,.arr 55 4 false A),(13,.box [iv n])]⟩) (⟨by omega,fun x hx=>by simp at hx⟩) ?_ (fun k hk hp=>?_)))))))
 ·exact qC (zC E (zC E (zC E (zC E SubT.nil)))) (SubO.cons (qU E (by rfl)) (SubO.cons (qU E (by rfl)) SubO.nil)) E E (LO hL E)
 refine qd (qb (zA E (qj E E E E) (zK (qd (qo E (fun c0=>?_) (fun c0=>?_))))))
 ·simp only[↓cqA,cqB]at c0
  obtain ⟨u,hu⟩:=qM (l:=ts) (k:=k) (by omega)
  refine qr (qa (qd (qv (qd (qb (zX E (zX E ?_)))))));refine zK (qd (qb (zX E (zX E (zX E (zA E (qax E qw E E zO zO) ?_))))))
  refine zA E (qbC (i:=k) (j:=0) E qK E E (by simp) (hA k u hu) zD zD rfl) ?_;refine qag (avs:=[_]) false E E E zD qhW E E (hstep u (List.mem_of_getElem? hu)) E (qbQ (.cons E trivial E .nil)) (by rintro r O' ⟨_,rfl⟩;exact frB E) (by rintro h;cases h) ?_
  rintro r O' ⟨rfl,rfl⟩
  refine zK (qo E (fun c1=>?_) (fun c1=>?_))
  ·refine qd (qb (zX E (zX E (zK (qn (qP (qm (qm (qP (qm ?_))))))))))
   change retQ _ _ _ _ _ _ _
   refine retO (O':=(0,_)::[(13,.box [iv n])]) (.inl E) (qg E qh) (SubO.cons E (SubO.cons E SubO.nil)) ?_ ?_ (LO hL E) ?_
   ·rfl
   ·rfl
   exact ⟨k,_,⟨by omega,hp.2⟩,.inl ⟨by omega,⟨u,hu,c1⟩,rfl⟩,rfl,rfl⟩
  refine qr (qR (qa (qb (zA E (qO E E E zO) (zX E (zK ?_))))));refine ⟨?_,?_,?_⟩
  ·omega
  ·refine ⟨by omega,fun x hx=>?_⟩
   rw [qas hu] at hx
   rcases List.mem_append.1 hx with h|h
   ·exact hp.2 x h
   ·rw [List.mem_singleton.1 h];exact c1
  exact qC (zC E (zC E (zC E (zC E SubT.nil)))) (SubO.cons (qU E (by rfl)) (SubO.cons (qU E (by rfl)) SubO.nil)) E E (LO hL E)
 simp only[↓cqA,cqB]at c0
 refine qV (qq (qq (qad ?_)));refine qa (qd (qb (zX E (zK (qn ?_)))))
 change retQ _ _ _ _ _ _ _
 refine retO (O':=(0,_)::[(13,.box [iv n])]) (.inl E) (qg E qh) (SubO.cons E (SubO.cons E SubO.nil)) ?_ ?_ (LO hL E) ?_
 ·rfl
 ·rfl
 exact ⟨k,_,⟨by omega,hp.2⟩,.inr ⟨by omega,rfl⟩,rfl,rfl⟩
theorem qjS (n:Int)(ts:List Mt)(hlen:ts.length≤1000000000)(cap:Nat)(hc1:ts.length≤cap)(hc2:cap≤maxLen)(p:Mt→Bool)
  (hstep:∀ u∈ts,AC Tryz.prog 197 (mtA u::[.ptr 13 0]) [(13,.box [iv n])] (fun r O=>r=bv (p u)∧O=[(13,.box [iv n])])):
  AC Tryz.prog 84 [.vw 0 0 ts.length cap,.fn 197 [.ptr 13 0]] ((0,.arr 55 4 false ((ts.map mtD).map some++List.replicate (cap-ts.length) none))::[(13,.box [iv n])]) (fun r O=>∃ A':List (Option (List D)),A'.length=cap∧(∀ (q:Nat) (x:Mt),(ts.filter (fun u=>!(p u)))[q]?=some x→A'[q]?=some (some (mtD x)))∧r=.vw 0 0 (ts.filter (fun u=>!(p u))).length cap∧O=(0,.arr 55 4 false A')::[(13,.box [iv n])]):=by
 have hml:maxLen=9223372036854775807:=rfl
 have hAl:((ts.map mtD).map some++List.replicate (cap-ts.length) (none:Option (List D))).length=cap:=by simp;omega
 refine qI Tryz.func84 E Tryz.ntmps84 zL fun c hL hQ hDD=>(qd (qb (zX E (zK (qd (qb ?_))))));refine zX E ?_
 refine zX E ?_;refine qag (avs:=[_,_]) false E E E zD qbE E E (qjR n ts hlen cap _ (qhp mtD ts _) p hstep) E (qbQ (.cons E trivial E (.cons E trivial E .nil))) (by rintro r O' ⟨m,i,_,_,_,rfl⟩;exact frB E) (by rintro h;cases h) ?_
 rintro r O' ⟨m,i,⟨hm1,hno⟩,hc,rfl,rfl⟩
 have hkeep:(ts.take m).filter (fun u=>!(p u))=ts.take m:=List.filter_eq_self.2 fun x hx=>by rw [hno x hx];rfl
 refine zX E (zK (qd (qd (qb (zX E (zA E (qj E E E E) ?_))))));refine zK (qo E (fun c0=>?_) (fun c0=>?_))
 ·simp only[↓cqA,cqB]at c0
  refine qd (qb (zX E (zX E (zK (qn (qm ?_))))))
  change retQ _ _ _ _ _ _ _
  refine retO (O':=(0,_)::[(13,.box [iv n])]) (.inl E) (qg E qh) (SubO.cons E (SubO.cons E SubO.nil)) ?_ ?_ (LO hL E) ?_
  ·rfl
  ·rfl
  have hmt:m=ts.length:=by rcases hc with ⟨_,_,h⟩|⟨h,_⟩<;>omega
  rw [hmt,List.take_length] at hkeep
  exact ⟨_,hAl,by rw [hkeep];exact qhp mtD ts _,by rw [hkeep];rfl,rfl⟩
 simp only[↓cqA,cqB]at c0
 obtain ⟨hmt,him,x0,hx0,hpx⟩:m<ts.length∧i=(m:Int)∧∃ x,ts[m]?=some x∧p x=true:=by
  rcases hc with ⟨h1,h2,h3⟩|⟨_,h⟩
  ·exact ⟨h1,h3,h2⟩
  ·omega
 subst him
 have hq0:(ts.take (m+1+0)).filter (fun u=>!(p u))=ts.take m:=by rw [Nat.add_zero,qk0 _ hx0,hkeep,hpx];simp
 have hq1:m=((ts.take (m+1+0)).filter (fun u=>!(p u))).length:=by rw [hq0];simp;omega
 have hq2:∀ (q:Nat) (x:Mt),((ts.take (m+1+0)).filter (fun u=>!(p u)))[q]?=some x→((ts.map mtD).map some++List.replicate (cap-ts.length) none)[q]?=some (some (mtD x)):=fun q x hq=>by
  rw [hq0,List.getElem?_take] at hq
  split at hq
  ·exact qhp mtD ts _ q x hq
  ·cases hq
 refine qr (qa (qd (qd (qb (zX E (zA E (qO E E E zO) (zX E ?_)))))));refine zK (qv ?_)
 refine qci (α:=Nat×List (Option (List D))) (ts.length) (fun k a=>a.1=((ts.take (m+1+k)).filter (fun u=>!(p u))).length∧m+1+k≤ts.length∧a.2.length=cap∧(∀ (q:Nat) (x:Mt),((ts.take (m+1+k)).filter (fun u=>!(p u)))[q]?=some x→a.2[q]?=some (some (mtD x)))∧∀ (q:Nat) (x:Mt),m+1+k≤q→ts[q]?=some x→a.2[q]?=some (some (mtD x))) (fun k a=>⟨[(0,.vw 0 0 ts.length cap),(1,.fn 197 [.ptr 13 0]),(5,iv (a.1:Int)),(6,iv ((m+1+k:Nat):Int))],[(0,.arr 55 4 false a.2),(13,.box [iv n])]⟩) ((m,(ts.map mtD).map some++List.replicate (cap-ts.length) none)) (⟨hq1,by omega,hAl,hq2,fun q x _ hq=>qhp mtD ts _ q x hq⟩) ?_ (fun k a hk hp=>?_)
 ·exact qC (zC E (zC E (zC E (SubT.cons (qaw E (by exact qan (by push_cast;omega))) SubT.nil)))) (SubO.cons (qU E (by rfl)) (SubO.cons (qU E (by rfl)) SubO.nil)) E E (LO hL E)
 have hfl:=qls (fun u=>!(p u)) ts (m+1+k)
 refine qd (qd (qb (zX E (zX E (zA E (qcy E qw E) (zA E (qj E E E E) (qc ?_)))))));refine qa (qo E (fun c1=>?_) (fun c1=>?_))
 ·simp only[↓cqA,cqB]at c1
  obtain ⟨u,hu⟩:=qM (l:=ts) (k:=m+1+k) (by omega)
  have hfs:=qk0 (fun u=>!(p u)) hu
  refine qr (qa (qd (qv (qd (qb (zX E (zX E ?_)))))));refine zA E (qax E qw E E zO zO) (zA E (qbC (i:=m+1+k) (j:=0) E qK E E (by simp only [Nat.zero_add,Int.toNat_natCast,Nat.add_zero]) (hp.2.2.2.2 _ u (Nat.le_refl _) hu) zD zD rfl) (qt rfl rfl zD (qat 7 rfl qao rfl) rfl (qT rfl rfl rfl qK rfl rfl rfl rfl rfl rfl rfl rfl rfl (zK (qd (qb (zM rfl rfl rfl ?_)))))))
  refine zA E (qF E qK E E E E) ?_;refine qag (avs:=[_]) false E E E zD qhW E E (hstep u (List.mem_of_getElem? hu)) E (qbQ (.cons E trivial E .nil)) (by rintro r O' ⟨_,rfl⟩;exact frB E) (by rintro h;cases h) ?_
  rintro r O' ⟨rfl,rfl⟩
  refine zA E (qaB E E) (zK (qo E (fun c2=>?_) (fun c2=>?_)))
  ·simp only[↓cqA,cqB]at c2
   have hpu:p u=false:=by simpa using c2
   let a2:Nat×List (Option (List D)):=(a.1+1,a.2.set a.1 (some (mtD u)))
   have hstp:a2.1=((ts.take (m+1+(k+1))).filter (fun u=>!(p u))).length∧a2.2.length=cap∧(∀ (q:Nat) (x:Mt),((ts.take (m+1+(k+1))).filter (fun u=>!(p u)))[q]?=some x→a2.2[q]?=some (some (mtD x)))∧∀ (q:Nat) (x:Mt),m+1+(k+1)≤q→ts[q]?=some x→a2.2[q]?=some (some (mtD x)):=by
    rw [hpu] at hfs
    rw [show m+1+(k+1)=m+1+k+1 by omega,hfs]
    refine ⟨by simp [a2,hp.1],by simp [a2,hp.2.2.1],fun q x hq=>?_,fun q x hq hx=>?_⟩
    ·simp only [a2,List.getElem?_set]
     by_cases hqa:a.1=q
     ·subst hqa
      rw [if_pos rfl,if_pos (by omega)]
      rw [List.getElem?_append_right (by omega)] at hq
      simp [hp.1] at hq
      rw [hq]
     ·rw [if_neg hqa]
      rcases Nat.lt_or_ge q a.1 with h1|h1
      ·rw [List.getElem?_append_left (by omega)] at hq
       exact hp.2.2.2.1 q x hq
      ·have:=(List.getElem?_eq_some_iff.1 hq).1
       simp at this;omega
    ·simp only [a2,List.getElem?_set]
     rw [if_neg (by omega)]
     exact hp.2.2.2.2 q x zO hx
   refine qd (qb (zX E (zX E (zA E (qF E qK E E E E) (zA E (qax E qw E E zO zO) (qca a.1 E E E qK E E (by simp) zO rfl rfl rfl rfl rfl rfl (zK (qb (zM rfl rfl rfl ?_)))))))))
   refine zA E (qO E E E zO) (zX E (qc (qR (qa (qb (zX E (zA E (qO E E E zO) ?_)))))));refine zX E (zK ?_);refine ⟨?_,a2,?_,?_⟩
   ·omega
   ·exact ⟨hstp.1,by omega,hstp.2.1,hstp.2.2.1,hstp.2.2.2⟩
   exact qC (zC E (zC E (zC E (SubT.cons (qaw E (by exact qan (by push_cast;omega))) SubT.nil)))) (SubO.cons (qU E (by rfl)) (SubO.cons (qU E (by rfl)) SubO.nil)) E E (LO hL E)
  simp only[↓cqA,cqB]at c2
  have hpu:p u=true:=by simpa using c2
  let a2:Nat×List (Option (List D)):=a
  have hstp:a2.1=((ts.take (m+1+(k+1))).filter (fun u=>!(p u))).length∧a2.2.length=cap∧(∀ (q:Nat) (x:Mt),((ts.take (m+1+(k+1))).filter (fun u=>!(p u)))[q]?=some x→a2.2[q]?=some (some (mtD x)))∧∀ (q:Nat) (x:Mt),m+1+(k+1)≤q→ts[q]?=some x→a2.2[q]?=some (some (mtD x)):=by
   rw [hpu] at hfs
   rw [show m+1+(k+1)=m+1+k+1 by omega,hfs]
   simp only [Bool.not_true,Bool.false_eq_true,if_false,List.append_nil]
   exact ⟨hp.1,hp.2.2.1,hp.2.2.2.1,fun q x hq hx=>hp.2.2.2.2 q x zO hx⟩
  refine qr (qR (qa (qb (zX E (zA E (qO E E E zO) (zX E (qc ?_)))))));refine qa ?_;refine ⟨?_,a2,?_,?_⟩
  ·omega
  ·exact ⟨hstp.1,by omega,hstp.2.1,hstp.2.2.1,hstp.2.2.2⟩
  exact qC (zC E (zC E (zC E (SubT.cons (qaw E (by exact qan (by push_cast;omega))) SubT.nil)))) (SubO.cons (qU E (by rfl)) (SubO.cons (qU E (by rfl)) SubO.nil)) E E (LO hL E)
 simp only[↓cqA,cqB]at c1
 refine qV (qq (qq (qad ?_)));refine qa (qd (qb (zX E (zX E (zA E (qcr E qw E E zO zO zO) ?_)))))
 refine qmc a.1 E E E qw qao E E E E (fun _=>by rw [if_neg zO];simp) zO (fun es2 hl2 hk2=>?_);refine qc ?_;refine qa ?_;refine qd ?_;refine qb ?_;refine zX E ?_;refine zX E (zA E (qe6 E qw E E zO zO zO) (zX E (zK (qn ?_))))
 change retQ _ _ _ _ _ _ _
 refine retO (O':=(0,_)::[(13,.box [iv n])]) (.inl E) (qg E qh) (SubO.cons E (SubO.cons E SubO.nil)) ?_ ?_ (LO hL E) ?_
 ·rfl
 ·rfl
 have hall:ts.take (m+1+k)=ts:=List.take_of_length_le (by omega)
 have h1:=hp.1
 have h4:=hp.2.2.2.1
 rw [hall] at h1 h4
 refine ⟨es2,by rw [hl2];exact hp.2.2.1,fun q x hq=>?_,?_,rfl⟩
 ·have hqa:=(List.getElem?_eq_some_iff.1 hq).1
  rw [hk2 q (by omega)]
  exact h4 q x hq
 ·rw [← h1];simp [resV]
theorem qlB (g:FuncId):AC Tryz.prog 113 [.imm (.slice none 0 0),.fn g [.any]] [] (fun r O=>r=iv (-1)∧O=[]):=by
 refine qI Tryz.func113 E Tryz.ntmps113 zL fun c hL hQ hDD=>(qd (qb (zX E (zK (qd (qd ?_))))));refine qb (zX E (zA E (qcB E qw E) (zX E (zK (qv (qac (0) (fun k=>True) (fun k=>⟨[(0,.imm (.slice none 0 0)),(1,.fn g [.any]),(7,iv 0),(8,iv (k:Int))],[]⟩) (trivial) ?_ (fun k hk hp=>?_)))))))
 ·exact zR hL (zC E (zC E (zC E (zC E SubT.nil)))) SubO.nil
 refine qd (qb (zA E (qj E E E E) (zK (qd (qo E (fun c0=>?_) (fun c0=>?_))))))
 ·simp only[↓cqA,cqB]at c0
  omega
 simp only[↓cqA,cqB]at c0
 refine qV (qq (qq (qad ?_)));refine qa (qd (qb (zX E (zK (qn (zI hL (qg E qh) ?_ ?_))))))
 ·rfl
 exact ⟨rfl,rfl⟩
theorem qlk (g:FuncId):AC Tryz.prog 84 [.imm (.slice none 0 0),.fn g [.any]] [] (fun r O=>r=.imm (.slice none 0 0)∧O=[]):=by
 refine qI Tryz.func84 E Tryz.ntmps84 zL fun c hL hQ hDD=>(qd (qb (zX E (zK (qd (qb ?_))))));refine zX E (zX E (qH (avs:=[_,_]) true E E E zD qbE E E (qlB g) E E (zX E (zK (qd (qd (qb (zX E (zA E (qj E E E E) (zK (qo E (fun c0=>?_) (fun c0=>?_))))))))))))
 ·simp only[↓cqA,cqB]at c0
  refine qd (qb (zX E (zX E (zK (qn (qm (zI hL (qg E qh) ?_ ?_)))))))
  ·rfl
  exact ⟨rfl,rfl⟩
 simp only[↓cqA,cqB]at c0
 simp at c0
theorem qq8 (l:List Mt)(n:Int):l.filter (fun u=>!(!(newM n u)))=l.filter (newM n):=by
 congr 1;funext u;simp
theorem qkN (l:List Kp)(hw:∀ k∈l,k.wf)(p:Pt)(hp:p.wf)(n:Int):PF 129 [.dat false 7 (kpDs l),ptA false p,iv n] (.tup [.dat false 4 (mtDs ((metV l p).filter (newM n))),iv (metE l p)]):=by
 obtain ⟨hll,hlm⟩:=qsa hw hp
 have hbl:=qah (metV l p)
 have hfl:=qah ((metV l p).filter (newM n))
 refine qI Tryz.func129 E Tryz.ntmps129 zL fun c hL hQ hDD=>(qd (qb (qt E E zD (q6 4 E E E) E (qt E E zD (q6 5 E E E) E (zX E (zX E (qc ?_)))))));refine qa (qd (qb (zX E (zA E (qF E qL E E E E) (qbW E E zD (qbn (avs:=[_,_]) false E qgG E E (qgx l hw p hp) (fun _=>rfl) E) E (zX E (zA E (qS E E E) (zA E (qS E E E) ?_))))))))
 refine zX E (zX E (zK (qd (qd (qb (zX E ?_))))));refine zA E (qj E E E E) (zK (qo E (fun c0=>?_) (fun c0=>?_)))
 ·simp only[↓cqA,cqB]at c0
  have hnil:=metE_ne (l:=l) (p:=p) (by first|assumption|simpa using c0)
  rw [hnil]
  refine qd (qb (zX E (zX E (zX E (zK (qn ?_))))));refine qm ?_
  change retQ _ _ _ _ _ _ _
  refine retS (qdx (t:=6) 4 false E) (retO (O':=[]) (by first|exact .inl E|exact .inr E) (qg E (qg E qh)) SubO.nil ?_ ?_ (noL' (noL hL) _) ?_)
  ·rfl
  ·rfl
  exact ⟨rfl,rfl⟩
 simp only[↓cqA,cqB]at c0
 have hE0:metE l p=0:=by first|assumption|simpa using c0
 rw [hE0]
 generalize metV l p=al at*
 refine qr (qa (qd (qb (zX E (zA E (qdz (vs:=[_]) E E) (qeo ⟨[(21,.row 0)],[(0,.rowd 55 4 false (mtDs (al.filter (newM n))))]⟩ (fun Q2 K=>?_) ?_))))))
 ·refine qab (qdi hQ) (qab (qZ 5 13 (noL hL _) (noL hL _)) (qab (qC (T1:=[(19,.row 6),(20,.fn 197 [.ptr 13 0])]) (O1:=[(6,.rowd 55 4 false (mtDs al)),(13,.box [iv n])]) (zB E (zB E SubT.nil)) (SubO.cons E (SubO.cons E SubO.nil)) E E (noL' (noL hL) _)) (qab (qZ 6 0 (noL hL _) (noL hL _)) (qdG (l:=0) E zD (noL hL _) (fun he=>?_) (fun cap h1 h2=>?_)))))
  ·have hl0:al=[]:=by
    rw [he] at hbl;exact List.eq_nil_of_length_eq_zero hbl.symm
   rw [hl0] at K
   refine qag (avs:=[_,_]) false E E E zD qb6 E E (qlk _) E (qbQ .nil) (by rintro r O' ⟨_,rfl⟩;exact frB E) (by rintro h;cases h) ?_
   rintro r O' ⟨rfl,rfl⟩
   exact qab (Sub.trans (qam (t:=21) (l:=9) 55 4 false E E) (Sub.trans (qC (T1:=[(21,.row 9)]) (O1:=[(9,.rowd 55 4 false [])]) (zB E SubT.nil) (SubO.cons E SubO.nil) E E (noL' (noL hL) _)) (Sub.trans (qZ 9 0 (noL hL _) (noL hL _)) (qC (zB E SubT.nil) (SubO.cons E SubO.nil) E E (noL' (noL hL) _))))) K
  ·rw [hbl] at h1 ⊢
   refine qag (avs:=[_,_]) false E E E zD qb6 E E (qjS n al zO cap h1 h2 (fun b=>!(newM n b)) (fun b hb=>With1_ok n b (by have:=(hlm b hb).ul;omega))) E (qbQ (.cons E trivial E (.cons E trivial E .nil))) (by rintro r O' ⟨A',_,_,_,rfl⟩;exact frB E) (by rintro h;cases h) ?_
   rintro r O' ⟨A',hA1,hA2,rfl,rfl⟩
   rw [qq8] at hA2 ⊢
   exact qab (Sub.trans (qbm (l:=0) (cap:=cap) (n:=(al.filter (newM n)).length) (mtDs (al.filter (newM n))) E (noL hL _) ⟨_,qgh hA2⟩ hfl.symm hA1.symm) (qC (SubT.cons (qaw E (by simp [AV.rp,clV])) SubT.nil) (SubO.cons rfl SubO.nil) rfl rfl (noL' (noL hL) _))) K
 refine zX E (qab (qaG (l:=0) E zD (noL hL _) E E) (zX E (zK (qn (zI hL (qg E (qg E qh)) ?_ ?_)))))
 ·rfl
 exact ⟨rfl,rfl⟩
end Go.Proofs.YtpgceiijoedppaaGreat