/- Part 31 of the proof: Nb. -/
import Derived.Test.YtpgceiijoedppaaGreatC29
set_option linter.unusedVariables false
set_option linter.unusedSimpArgs false
set_option maxRecDepth 8000
namespace Go.Proofs.YtpgceiijoedppaaGreat
open Go
theorem qrq (f:Bool)(n:Nat)(hn:n*144≤140737488355328):AC Tryz.prog 277 [.imm (.slice none 0 0),iv n] [] (fun r O=>r=.row 7∧O=[(7,.rowd 36 9 f [])]):=by
 refine qI Tryz.func277 E Tryz.ntmps277 zL fun c hL hQ hDD=>(qd (qb (zX E (zK (qd (qd ?_))))));refine qb (zX E (zA E (qj E E E E) (zK (qo E (fun c0=>?_) (fun c0=>?_)))))
 ·simp only[↓cqA,cqB]at c0
  omega
 simp only[↓cqA,cqB]at c0
 refine qr (qa (qd (qd (qb (zX E (zX E (zA E (qex E qy E) ?_)))))));refine zX E (zA E (qcB E qy E) ?_)
 refine zA E (qa3 E E E zO) (zA E (qa3 E E E zO) (zX E (zK (qd (qb (zX E ?_))))));refine zA E (qj E E E E) (zK (qo E (fun c1=>?_) (fun c1=>?_)))
 ·simp only[↓cqA,cqB]at c1
  refine qb (zX E (zX E (zA E (qex E qy E) (zA E (qms E qy E E zO) (zX E (qfO 7 f qck E E zD E E E E zO E zO zD fun cap hc1 hc2=>(zX E (zA E (qcB E qy E) (zA E (qe6 E qy E E zO zO zO) ?_)))))))))
  refine zX E (zK (qd (qb (zX E (zX E (qc ?_))))));refine qa (qn ?_)
  change retQ _ _ _ _ _ _ _
  refine retS (Sub.trans (qbm (l:=7) (cap:=cap) (n:=0) [] E (noL hL _) ⟨List.replicate cap none,rfl⟩ E (by simp)) (qC (T1:=[(4,.row 7)]) (O1:=[(7,_)]) (SubT.cons (qaw rfl (by simp [AV.rp,clV])) SubT.nil) (SubO.cons rfl SubO.nil) rfl rfl (noL' (noL hL) _))) (retO (O':=[(7,_)]) (.inl rfl) (qg rfl qh) (SubO.cons rfl SubO.nil) ?_ ?_ (noL' (noL hL) _) ?_)
  ·rfl
  ·rfl
  exact ⟨rfl,rfl⟩
 simp only[↓cqA,cqB]at c1
 refine qr (qa (qd (qb (zX E (zX E (zK ?_))))));refine qn ?_
 change retQ _ _ _ _ _ _ _
 refine retS (qam (t:=4) (l:=7) 36 9 f E E) (retO (O':=[(7,_)]) (.inl E) (qg E qh) (SubO.cons E SubO.nil) ?_ ?_ (noL' (noL hL) _) ?_)
 ·rfl
 ·rfl
 exact ⟨rfl,rfl⟩
theorem qoB (rs:List (List (List D)))(hes:∀ es∈rs,∀ d∈es,d.length=9)(hb:rs.flatten.length*144≤140737488355328)(hn:rs.length≤140737488351232):AC Tryz.prog 229 [.dat false 1 (rs.map fun es=>[D.sl 9 es])] [] (fun r O=>r=.row 6∧O=[(6,.rowd 36 9 false rs.flatten)]):=by
 have hlr:(rs.map fun es=>[D.sl 9 es]).length=rs.length:=List.length_map ..
 have hget:∀ {i:Nat} {es:List (List D)},rs[i]?=some es→(rs.map fun es=>[D.sl 9 es])[i]?=some [D.sl 9 es]:=fun {i es} h=>by simp [h]
 refine qI Tryz.func229 E Tryz.ntmps229 zL fun c hL hQ hDD=>(qd (qb (zX E (zK (qd (qb ?_))))));refine zX E (zK (qd (qd (qb (zX E (zA E (qu E qcS E) (zX E (zK (qv (qac (rs.length) (fun k=>k≤rs.length) (fun k=>⟨[(0,.dat false 1 (rs.map fun es=>[D.sl 9 es])),(3,iv ((rs.take k).flatten.length:Int)),(9,.dat false 1 (rs.map fun es=>[D.sl 9 es])),(10,iv (rs.map fun es=>[D.sl 9 es]).length),(11,iv (k:Int))],[]⟩) zO ?_ (fun k hk hp=>?_)))))))))))
 ·exact zR hL (zC E (zC E (zC E (zC E (zC E SubT.nil))))) SubO.nil
 have hfl:=qfK rs k
 refine qd (qb (zA E (qj E E E E) (zK (qd (qo E (fun c0=>?_) (fun c0=>?_))))))
 ·simp only[↓cqA,cqB]at c0
  obtain ⟨es,hu⟩:=qM (l:=rs) (k:=k) (by omega)
  have hfs:=qf7 hu
  have hfl2:=qfK rs (k+1)
  have hfa:(rs.take (k+1)).flatten.length=(rs.take k).flatten.length+es.length:=by rw [hfs,List.length_append]
  refine qr (qa (qd (qv (qd (qb (zA E (qp E qcS E E zO (hget hu)) (zA E (qW E qB E) (zX E (zK (qd (qb (zX E (zX E (zA E (qu E qy E) ?_))))))))))))))
  refine zA E (qO E E E zO) (zX E (zK (qd (qb (zX E (zA E (qj E E E E) ?_))))));refine zK (qo E (fun c1=>?_) (fun c1=>?_))
  ·simp only[↓cqA,cqB]at c1
   omega
  simp only[↓cqA,cqB]at c1
  refine qr (qR (qa (qb (zA E (qO E E E zO) (zX E (zK ?_))))));refine ⟨?_,?_,?_⟩
  ·omega
  ·omega
  exact zR hL (zC E (SubT.cons (qaw E (by rw [hfa];exact qbx zO)) (zC E (zC E (zC E SubT.nil))))) SubO.nil
 simp only[↓cqA,cqB]at c0
 have hk1:rs.take k=rs:=List.take_of_length_le (by omega)
 rw [hk1]
 refine qV ?_;refine qq (qq (qad ?_));refine qa ?_;refine qd ?_;refine qb ?_;refine zX E ?_;refine qag (avs:=[_,_]) true E E E zD qdL E E (qrq true rs.flatten.length hb) E (qbQ .nil) (by rintro r O' ⟨_,rfl⟩;exact frB E) (by rintro-r O' ⟨rfl,rfl⟩;exact ⟨rfl,rfl⟩) ?_
 rintro r O' ⟨rfl,rfl⟩
 refine qab (qdi hQ) (zX E (zK (qd (qd (qb (zX E ?_))))));refine zA E (qu E qcS E) (zX E (zK (qv (qac (rs.length) (fun k=>k≤rs.length) (fun k=>⟨[(6,.row 6),(25,.dat false 1 (rs.map fun es=>[D.sl 9 es])),(26,iv (rs.map fun es=>[D.sl 9 es]).length),(27,iv (k:Int))],[(6,.rowd 36 9 false (rs.take k).flatten)]⟩) zO ?_ (fun k hk hp=>?_)))))
 ·exact Sub.trans (qZ 7 6 (noL hL _) (noL hL _)) (qC (zC E (zC E (zC E (zC E SubT.nil)))) (SubO.cons (qU E (by rfl)) SubO.nil) E E (noL' (noL hL) _))
 refine qd (qb (zA E (qj E E E E) (zK (qd (qo E (fun c2=>?_) (fun c2=>?_))))))
 ·simp only[↓cqA,cqB]at c2
  obtain ⟨es,hu⟩:=qM (l:=rs) (k:=k) (by omega)
  have hes1:=hes es (List.mem_of_getElem? hu)
  have hfs:=qf7 hu
  have hfl2:=qfK rs (k+1)
  have hfa:(rs.take (k+1)).flatten.length=(rs.take k).flatten.length+es.length:=by rw [hfs,List.length_append]
  refine qr (qa (qd (qv (qd (qb (zA E (qp E qcS E E zO (hget hu)) (zA E (qW E qB E) ?_)))))));refine zX E (zK (qb (zX E (zX E ?_))))
  refine qcG 33 qck E E zD E E E (qmy hes1 E) E hes1 (noL hL _) E zO E (zX E (qc (qR (qa (qb (zA E (qO E E E zO) (zX E ?_)))))));refine zK ?_;refine ⟨?_,?_,?_⟩
  ·omega
  ·omega
  exact Sub.trans (qZ 33 6 (noL hL _) (noL hL _)) (qC (zC E (zC E (zC E (zC E SubT.nil)))) (SubO.cons (qU E (by rw [hfs];rfl)) SubO.nil) E E (noL' (noL hL) _))
 simp only[↓cqA,cqB]at c2
 refine qV (qq (qq (qad ?_)));refine qa (qd (qb (zX E (zX E (zK (qn ?_))))))
 change retQ _ _ _ _ _ _ _
 refine retO (O':=[(6,_)]) (.inl E) (qg E qh) (SubO.cons E SubO.nil) ?_ ?_ (noL' (noL hL) _) ?_
 ·rfl
 ·rfl
 exact ⟨rfl,by rw [List.take_of_length_le zO]⟩
theorem qlh (B:Bool)(ts:List Pt)(es:List (List D))(hes:es=ts.map ptD)(hlen:ts.length≤140737488351232)(g:FuncId)(caps:List AV)(hen:qY Tryz.prog g)(Os:Nat→List (Nat×Ob))(p:Nat→Bool)(hO:qh0 B caps Os)
  (hstep:∀ k u,ts[k]?=some u→(∀ j,j<k→p j=false)→AC Tryz.prog g (ptA false u::caps) (Os k) (fun r O=>r=bv (p k)∧O=Os (k+1))):
  AC Tryz.prog 276 [.dat false 9 es,.fn g caps] (Os 0) (fun r O=>∃ m n i,m≤ts.length∧(∀ j,j<m→p j=false)∧((m<ts.length∧p m=true∧i=(m:Int)∧n=m+1)∨(m=ts.length∧i=-1∧n=m))∧r=iv i∧O=Os n):=by
 have hl:es.length=ts.length:=by rw [hes,List.length_map]
 refine qI Tryz.func276 E Tryz.ntmps276 zL fun c hL hQ hDD=>(qd (qb (zX E (zK (qd (qd ?_))))));refine qb (zX E (zA E (qu E qy E) (zX E (zK (qv (qac (ts.length) (fun k=>k≤ts.length∧∀ j,j<k→p j=false) (fun k=>⟨[(0,.dat false 9 es),(1,.fn g caps),(7,iv es.length),(8,iv (k:Int))],Os k⟩) (⟨by omega,fun j hj=>absurd hj zO⟩) ?_ (fun k hk hp=>?_)))))))
 ·exact qC (zC E (zC E (zC E (zC E SubT.nil)))) (fun _ _ h=>h) (by simp [allT,AV.allL,hO.all]) (hO.self _) (fun l hl=>by rw [hO.dom];exact (hL l).1 hl)
 refine qd (qb (zA E (qj E E E E) (zK (qd (qo E (fun c0=>?_) (fun c0=>?_))))))
 ·simp only[↓cqA,cqB]at c0
  obtain ⟨u,hu⟩:=qM (l:=ts) (k:=k) (by omega)
  refine qr (qa (qd (qv (qd (qb (zX E (zX E ?_)))))));refine zK (qd (qb (zX E (zX E (zX E ?_)))))
  refine zA E (qp E qy E E zO (by rw [hes,List.getElem?_map];exact congrArg (Option.map ptD) hu)) ?_;refine zA E (qD E qL E E) ?_;refine qag (avs:=[_]) B E E E zD hen E E (hstep k u hu hp.2) (by rw [List.cons_append,List.nil_append];simp only [AV.cvs,hO.cvs];rfl) (hO.pass k) (by rintro r O' ⟨_,rfl⟩ l hl;left;rw [hO.dom] at hl ⊢;exact hl) (by rintro hB r O' ⟨rfl,rfl⟩;exact ⟨rfl,hO.q hB _⟩) ?_
  rintro r O' ⟨rfl,rfl⟩
  refine zK (qo E (fun c1=>?_) (fun c1=>?_))
  ·refine qd (qb (zX E (zX E (zK (qn (qP (qm (qm (qP (qm ?_))))))))))
   change retQ _ _ _ _ _ _ _
   refine retO (.inl E) (qg E qh) SubO.left rfl (hO.self _) (fun l hl=>by rw [hO.dom];exact (hL l).1 hl) ?_
   exact ⟨k,_,_,by omega,hp.2,.inl ⟨by omega,c1,rfl,rfl⟩,rfl,rfl⟩
  refine qr (qR (qa (qb (zA E (qO E E E zO) (zX E (zK ?_))))));refine ⟨?_,?_,?_⟩
  ·omega
  ·refine ⟨by omega,fun j hj=>?_⟩
   by_cases hjk:j<k
   ·exact hp.2 j hjk
   ·rw [show j=k by omega];exact c1
  exact qC (zC E (zC E (zC E (zC E SubT.nil)))) (SubO.left) (by simp [allT,AV.allL,hO.all]) (hO.self _) (fun l hl=>by rw [hO.dom];exact (hL l).1 hl)
 simp only[↓cqA,cqB]at c0
 refine qV (qq (qq (qad ?_)));refine qa (qd (qb (zX E (zK (qn ?_)))))
 change retQ _ _ _ _ _ _ _
 refine retO (.inl E) (qg E qh) (fun _ _ h=>h) E (hO.self _) (fun l hl=>by rw [hO.dom];exact (hL l).1 hl) ?_
 exact ⟨k,_,_,by omega,hp.2,.inr ⟨by omega,rfl,rfl⟩,rfl,rfl⟩
theorem qi2 (B:Bool)(ts:List Pt)(es:List (List D))(hes:es=ts.map ptD)(hlen:ts.length≤140737488351232)(g:FuncId)(caps:List AV)(hen:qY Tryz.prog g)(Os:Nat→List (Nat×Ob))(p:Nat→Bool)(hO:qh0 B caps Os)
  (hstep:∀ k u,ts[k]?=some u→(∀ j,j<k→p j=false)→AC Tryz.prog g (ptA false u::caps) (Os k) (fun r O=>r=bv (p k)∧O=Os (k+1))):
  AC Tryz.prog 228 [.dat false 9 es,.fn g caps] (Os 0) (fun r O=>∃ m n b,m≤ts.length∧(∀ j,j<m→p j=false)∧((m<ts.length∧p m=true∧b=true∧n=m+1)∨(m=ts.length∧b=false∧n=m))∧r=bv b∧O=Os n):=by
 refine qI Tryz.func228 E Tryz.ntmps228 zL fun c hL hQ hDD=>(qd (qb (zX E (zK (qd (qb ?_))))));refine zX E (zX E ?_)
 refine qag (avs:=[_,_]) B E E E zD qde E E (qlh B ts es hes hlen g caps hen Os p hO hstep) (by simp only [List.append_nil,AV.cvs,AV.cv,hO.cvs];rfl) (hO.pass 0) (by rintro r O' ⟨m,n,i,_,_,_,_,rfl⟩ l hl;left;rw [hO.dom] at hl ⊢;exact hl) (by rintro hB r O' ⟨m,n,i,_,_,_,rfl,rfl⟩;exact ⟨rfl,hO.q hB _⟩) ?_
 rintro r O' ⟨m,n,i,hm,hf,hc,rfl,rfl⟩
 refine zA E (qj E E E E) (zX E (zK (qn ?_)))
 change retQ _ _ _ _ _ _ _
 refine retO (.inl E) (qg E qh) SubO.left rfl (hO.self _) (fun l hl=>by rw [hO.dom];exact (hL l).1 hl) ?_;refine ⟨m,n,_,hm,hf,?_,rfl,rfl⟩
 rcases hc with ⟨h1,h2,rfl,h3⟩|⟨h1,rfl,h3⟩
 ·exact .inl ⟨h1,h2,by simp,h3⟩
 ·exact .inr ⟨h1,by simp,h3⟩
theorem qja (r:Int):PF 275 [iv r] (bv (decide (1≤r∧r≤13))):=by
 refine qI Tryz.func275 E Tryz.ntmps275 zL fun c hL hQ hDD=>(qd (qb (zX E (zK (qd (qb ?_))))));refine zX E (zA E (qj E E E E) (zX E (qE 5 E (fun g5=>?_) (fun g5=>?_))))
 ·simp only[↓cqA,cqB]at g5
  refine zZ E (ql (.inl E) E) (zZ E (qj E E E E) (zA E (qk E E E) (zX E (zK (qn (zI hL (qg E qh) ?_ ?_))))))
  ·rfl
  refine ⟨q7 ?_,rfl⟩
  first|(simp_all;done)|(simp_all;omega)
 simp only[↓cqA,cqB]at g5
 refine zY E (zY E (zA E (qk E E E) (zX E (zK (qn (zI hL (qg E qh) ?_ ?_))))))
 ·rfl
 refine ⟨q7 ?_,rfl⟩
 first|(simp_all;done)|(simp_all;omega)
theorem qsr (p:Pt)(hp:p.wf)(hk:¬ (2≤p.kind∧p.kind≤6)):PF 227 [ptA false p] (bv (qbV p)):=by
 have hdl:=qaQ p.l
 have hdr:=qaQ p.r
 have hdc:=qaQ p.c
 have htw:=hp.2.1
 obtain ⟨hlL,hwL⟩:=hp.2.2.2.1
 obtain ⟨hlR,hwR⟩:=hp.2.2.2.2.1
 obtain ⟨hlC,hwC⟩:=hp.2.2.2.2.2
 simp only [qbt] at hlL hlR hlC
 refine qI Tryz.func227 E Tryz.ntmps227 zL fun c hL hQ hDD=>(qd (qb (qt E E zD (q6 1 E E E) E (zX E (zK (qd ?_))))));refine qX 5 mixed E E E E (zU E (qe E qaT E) (zU E (qi E qQ E E E E E) ?_))
 refine zU E (qj E E E E) (zU E (ql (.inr E) E) (zU E (ql (.inr E) E) (qaq ⟨rfl,rfl,?_⟩)));refine zX E (zK (qd (qd (qb (zA E (qe E qap E) (zA E (qi E qQ E E E E E) ?_))))))
 refine zK (qv (qd (qb (zA E (qj E E E E) (zX E (qc ?_))))));refine qa (qo E (fun c0=>?_) (fun c0=>?_))
 ·simp only[↓cqA,cqB]at c0
  refine qd (qb (zA E (qe E qaP E) (zA E (qi E qB E E E E E) (zA E (qu E qy E) (zA E (qe E qaO E) (zA E (qi E qB E E E E E) (zA E (qu E qy E) (zA E (qO E E E zO) (zA E (qe E qaD E) (zA E (qi E qB E E E E E) (zA E (qu E qy E) (zA E (qO E E E zO) (zA E (qj E E E E) (zX E (qE 25 E (fun g25=>?_) (fun g25=>?_))))))))))))))))
  ·simp only[↓cqA,cqB]at g25
   refine zZ E (ql (.inl E) E) (zA E (qk E E E) (zX E (qE 28 E (fun g28=>?_) (fun g28=>?_))))
   ·simp only[↓cqA,cqB]at g28
    refine zZ E (qe E qa6 E) (zZ E (qe E qaL E) (zZ E (qi E qQ E E E E E) (zZ E (qj E E E E) (zA E (qk E E E) (zX E (qE 34 E (fun g34=>?_) (fun g34=>?_)))))))
    ·simp only[↓cqA,cqB]at g34
     refine zZ E (qe E qa6 E) (zZ E (qi E qz E E E E E) (zZ E (qai (avs:=[_]) true E qic E E (qsQ p.t htw) (fun _=>rfl) E) (zA E (qk E E E) (zX E (zK (qn ?_))))));refine qP (qm (zI hL (qg E qh) ?_ ?_))
     ·rfl
     refine ⟨q7 ?_,rfl⟩
     first
      | (exfalso;omega)
      | (rw [qbV,if_neg (show ¬ p.kind=1 by omega),if_neg hk];done)
      | (rw [qbV,if_pos (show p.kind=1 by assumption),Bool.eq_iff_iff]
         cases mayT p.t<;>simp only [Bool.and_eq_true,decide_eq_true_eq,and_true,and_false,iff_false,iff_true,Bool.false_eq_true,true_iff,false_iff,not_false_eq_true]<;>omega)
      | trace_state
    simp only[↓cqA,cqB]at g34
    refine zY E (zY E (zY E (zA E (qk E E E) (zX E (zK (qn ?_))))));refine qP (qm (zI hL (qg E qh) ?_ ?_))
    ·rfl
    refine ⟨q7 ?_,rfl⟩
    first
     | (exfalso;omega)
     | (rw [qbV,if_neg (show ¬ p.kind=1 by omega),if_neg hk];done)
     | (rw [qbV,if_pos (show p.kind=1 by assumption),Bool.eq_iff_iff]
        cases mayT p.t<;>simp only [Bool.and_eq_true,decide_eq_true_eq,and_true,and_false,iff_false,iff_true,Bool.false_eq_true,true_iff,false_iff,not_false_eq_true]<;>omega)
     | trace_state
   simp only[↓cqA,cqB]at g28
   refine zY E (zY E (zY E (zY E (zA E (qk E E E) (zX E ?_)))))
   refine zY E (zY E (zY E (zA E (qk E E E) (zX E (zK (qn ?_))))));refine qP (qm (zI hL (qg E qh) ?_ ?_))
   ·rfl
   refine ⟨q7 ?_,rfl⟩
   first
    | (exfalso;omega)
    | (rw [qbV,if_neg (show ¬ p.kind=1 by omega),if_neg hk];done)
    | (rw [qbV,if_pos (show p.kind=1 by assumption),Bool.eq_iff_iff]
       cases mayT p.t<;>simp only [Bool.and_eq_true,decide_eq_true_eq,and_true,and_false,iff_false,iff_true,Bool.false_eq_true,true_iff,false_iff,not_false_eq_true]<;>omega)
    | trace_state
  simp only[↓cqA,cqB]at g25
  refine zY E (zA E (qk E E E) (zX E (zY E (zY E (zY E (zY E (zA E (qk E E E) (zX E (zY E (zY E (zY E (zA E (qk E E E) (zX E (zK (qn (qP (qm (zI hL (qg E qh) ?_ ?_))))))))))))))))))
  ·rfl
  refine ⟨q7 ?_,rfl⟩
  first
   | (exfalso;omega)
   | (rw [qbV,if_neg (show ¬ p.kind=1 by omega),if_neg hk];done)
   | (rw [qbV,if_pos (show p.kind=1 by assumption),Bool.eq_iff_iff]
      cases mayT p.t<;>simp only [Bool.and_eq_true,decide_eq_true_eq,and_true,and_false,iff_false,iff_true,Bool.false_eq_true,true_iff,false_iff,not_false_eq_true]<;>omega)
   | trace_state
 simp only[↓cqA,cqB]at c0
 refine qd (qd (qb (zA E (qj E E E E) (zX E (zK (qo E (fun c1=>?_) (fun c1=>?_)))))))
 ·simp only[↓cqA,cqB]at c1
  omega
 simp only[↓cqA,cqB]at c1
 refine qd (qb (zA E (qj E E E E) (zX E (zK (qo E (fun c2=>?_) (fun c2=>?_))))))
 ·simp only[↓cqA,cqB]at c2
  omega
 simp only[↓cqA,cqB]at c2
 refine qb (zA E (qj E E E E) (zX E (zK (qo E (fun c3=>?_) (fun c3=>?_)))))
 ·simp only[↓cqA,cqB]at c3
  omega
 simp only[↓cqA,cqB]at c3
 refine qd (qb (zA E (qj E E E E) (zX E (zK (qo E (fun c4=>?_) (fun c4=>?_))))))
 ·simp only[↓cqA,cqB]at c4
  omega
 simp only[↓cqA,cqB]at c4
 refine qd (qb (zA E (qj E E E E) (zX E (zK (qo E (fun c5=>?_) (fun c5=>?_))))))
 ·simp only[↓cqA,cqB]at c5
  omega
 simp only[↓cqA,cqB]at c5
 refine qd (qb (zX E (zK (qn (qP (qm (zI hL (qg E qh) ?_ ?_)))))))
 ·rfl
 refine ⟨q7 ?_,rfl⟩
 first
  | (exfalso;omega)
  | (rw [qbV,if_neg (show ¬ p.kind=1 by omega),if_neg hk];done)
  | (rw [qbV,if_pos (show p.kind=1 by assumption),Bool.eq_iff_iff]
     cases mayT p.t<;>simp only [Bool.and_eq_true,decide_eq_true_eq,and_true,and_false,iff_false,iff_true,Bool.false_eq_true,true_iff,false_iff,not_false_eq_true]<;>omega)
  | trace_state
theorem qra (p:Pt)(hp:p.wf)(hk:2≤p.kind∧p.kind≤6):PF 227 [ptA false p] (bv (qbV p)):=by
 have hdl:=qaQ p.l
 have hdr:=qaQ p.r
 have hdc:=qaQ p.c
 have htw:=hp.2.1
 obtain ⟨hlL,hwL⟩:=hp.2.2.2.1
 obtain ⟨hlR,hwR⟩:=hp.2.2.2.2.1
 obtain ⟨hlC,hwC⟩:=hp.2.2.2.2.2
 simp only [qbt] at hlL hlR hlC
 refine qI Tryz.func227 E Tryz.ntmps227 zL fun c hL hQ hDD=>(qd (qb (qt E E zD (q6 1 E E E) E (zX E (zK (qd ?_))))));refine qX 5 mixed E E E E (zU E (qe E qaT E) (zU E (qi E qQ E E E E E) ?_))
 refine zU E (qj E E E E) (zU E (ql (.inr E) E) (zU E (ql (.inr E) E) (qaq ⟨rfl,rfl,?_⟩)));refine zX E (zK (qdr ⟨[(1,.ptr 1 0),(3,iv 1),(4,iv (if p.kind=5 then 1 else 0)),(5,bv (if p.kind=6 then decide (1≤p.rel∧p.rel≤13) else decide (p.rel=0)))],[(1,.box (lift false (ptD p)))]⟩ ?_ ?_))
 ·refine qd (qb (zA E (qe E qap E) (zA E (qi E qQ E E E E E) (zK (qv (qd ?_))))));refine qb (zA E (qj E E E E) (zX E (zK (qo E (fun c0=>?_) (fun c0=>?_)))))
  ·simp only[↓cqA,cqB]at c0
   omega
  simp only[↓cqA,cqB]at c0
  refine qd (qd (qb (zA E (qj E E E E) (zX E (zK (qo E (fun c1=>?_) (fun c1=>?_)))))))
  ·simp only[↓cqA,cqB]at c1
   refine qr (qa (qo E (fun c3=>?_) (fun c3=>?_)))
   ·simp only[↓cqA,cqB]at c3
    refine qr (qR ?_)
    exact qaC (qC (zC E (zC E (SubT.cons (qaw E (by exact qan (by first|(rw [if_neg (show ¬ p.kind=5 by omega)];done)|(rw [if_pos (show p.kind=5 by omega)];done)))) (SubT.cons (qaw E (by exact qbs (by first|(rw [if_neg (show ¬ p.kind=6 by omega)];rfl)|(rw [if_pos (show p.kind=6 by omega)];done)))) SubT.nil)))) (SubO.cons (qU E (by rfl)) SubO.nil) E E (noL' (noL hL) _))
   simp only[↓cqA,cqB]at c3
   refine qd (qb (zA E (qj E E E E) (zX E (zK (qo E (fun c4=>?_) (fun c4=>?_))))))
   ·simp only[↓cqA,cqB]at c4
    refine qb (zX E (qc (qR ?_)))
    exact qaC (qC (zC E (zC E (SubT.cons (qaw E (by exact qan (by first|(rw [if_neg (show ¬ p.kind=5 by omega)];done)|(rw [if_pos (show p.kind=5 by omega)];done)))) (SubT.cons (qaw E (by exact qbs (by first|(rw [if_neg (show ¬ p.kind=6 by omega)];rfl)|(rw [if_pos (show p.kind=6 by omega)];done)))) SubT.nil)))) (SubO.cons (qU E (by rfl)) SubO.nil) E E (noL' (noL hL) _))
   simp only[↓cqA,cqB]at c4
   refine qd (qb (zA E (qj E E E E) (zX E (zK (qo E (fun c5=>?_) (fun c5=>?_))))))
   ·simp only[↓cqA,cqB]at c5
    refine qb (zA E (qe E qaT E) (zA E (qi E qQ E E E E E) (qH (avs:=[_]) true E E E zD qid E E (qja p.rel) E E (zX E (qc (qR ?_))))))
    exact qaC (qC (zC E (zC E (SubT.cons (qaw E (by exact qan (by first|(rw [if_neg (show ¬ p.kind=5 by omega)];done)|(rw [if_pos (show p.kind=5 by omega)];done)))) (SubT.cons (qaw E (by exact qbs (by first|(rw [if_neg (show ¬ p.kind=6 by omega)];rfl)|(rw [if_pos (show p.kind=6 by omega)];done)))) SubT.nil)))) (SubO.cons (qU E (by rfl)) SubO.nil) E E (noL' (noL hL) _))
   simp only[↓cqA,cqB]at c5
   omega
  simp only[↓cqA,cqB]at c1
  refine qd (qb (zA E (qj E E E E) (zX E (zK (qo E (fun c2=>?_) (fun c2=>?_))))))
  ·simp only[↓cqA,cqB]at c2
   refine qr (qa (qo E (fun c3=>?_) (fun c3=>?_)))
   ·simp only[↓cqA,cqB]at c3
    refine qr (qR ?_)
    exact qaC (qC (zC E (zC E (SubT.cons (qaw E (by exact qan (by first|(rw [if_neg (show ¬ p.kind=5 by omega)];done)|(rw [if_pos (show p.kind=5 by omega)];done)))) (SubT.cons (qaw E (by exact qbs (by first|(rw [if_neg (show ¬ p.kind=6 by omega)];rfl)|(rw [if_pos (show p.kind=6 by omega)];done)))) SubT.nil)))) (SubO.cons (qU E (by rfl)) SubO.nil) E E (noL' (noL hL) _))
   simp only[↓cqA,cqB]at c3
   refine qd (qb (zA E (qj E E E E) (zX E (zK (qo E (fun c4=>?_) (fun c4=>?_))))))
   ·simp only[↓cqA,cqB]at c4
    refine qb (zX E (qc (qR ?_)))
    exact qaC (qC (zC E (zC E (SubT.cons (qaw E (by exact qan (by first|(rw [if_neg (show ¬ p.kind=5 by omega)];done)|(rw [if_pos (show p.kind=5 by omega)];done)))) (SubT.cons (qaw E (by exact qbs (by first|(rw [if_neg (show ¬ p.kind=6 by omega)];rfl)|(rw [if_pos (show p.kind=6 by omega)];done)))) SubT.nil)))) (SubO.cons (qU E (by rfl)) SubO.nil) E E (noL' (noL hL) _))
   simp only[↓cqA,cqB]at c4
   refine qd (qb (zA E (qj E E E E) (zX E (zK (qo E (fun c5=>?_) (fun c5=>?_))))))
   ·simp only[↓cqA,cqB]at c5
    refine qb (zA E (qe E qaT E) (zA E (qi E qQ E E E E E) (qH (avs:=[_]) true E E E zD qid E E (qja p.rel) E E (zX E (qc (qR ?_))))))
    exact qaC (qC (zC E (zC E (SubT.cons (qaw E (by exact qan (by first|(rw [if_neg (show ¬ p.kind=5 by omega)];done)|(rw [if_pos (show p.kind=5 by omega)];done)))) (SubT.cons (qaw E (by exact qbs (by first|(rw [if_neg (show ¬ p.kind=6 by omega)];rfl)|(rw [if_pos (show p.kind=6 by omega)];done)))) SubT.nil)))) (SubO.cons (qU E (by rfl)) SubO.nil) E E (noL' (noL hL) _))
   simp only[↓cqA,cqB]at c5
   omega
  simp only[↓cqA,cqB]at c2
  refine qb (zA E (qj E E E E) (zX E (zK (qo E (fun c3=>?_) (fun c3=>?_)))))
  ·simp only[↓cqA,cqB]at c3
   refine qr (qR ?_)
   exact qaC (qC (zC E (zC E (SubT.cons (qaw E (by exact qan (by first|(rw [if_neg (show ¬ p.kind=5 by omega)];done)|(rw [if_pos (show p.kind=5 by omega)];done)))) (SubT.cons (qaw E (by exact qbs (by first|(rw [if_neg (show ¬ p.kind=6 by omega)];rfl)|(rw [if_pos (show p.kind=6 by omega)];done)))) SubT.nil)))) (SubO.cons (qU E (by rfl)) SubO.nil) E E (noL' (noL hL) _))
  simp only[↓cqA,cqB]at c3
  refine qd (qb (zA E (qj E E E E) (zX E (zK (qo E (fun c4=>?_) (fun c4=>?_))))))
  ·simp only[↓cqA,cqB]at c4
   refine qb (zX E (qc (qR ?_)))
   exact qaC (qC (zC E (zC E (SubT.cons (qaw E (by exact qan (by first|(rw [if_neg (show ¬ p.kind=5 by omega)];done)|(rw [if_pos (show p.kind=5 by omega)];done)))) (SubT.cons (qaw E (by exact qbs (by first|(rw [if_neg (show ¬ p.kind=6 by omega)];rfl)|(rw [if_pos (show p.kind=6 by omega)];done)))) SubT.nil)))) (SubO.cons (qU E (by rfl)) SubO.nil) E E (noL' (noL hL) _))
  simp only[↓cqA,cqB]at c4
  refine qd (qb (zA E (qj E E E E) (zX E (zK (qo E (fun c5=>?_) (fun c5=>?_))))))
  ·simp only[↓cqA,cqB]at c5
   refine qb (zA E (qe E qaT E) (zA E (qi E qQ E E E E E) (qH (avs:=[_]) true E E E zD qid E E (qja p.rel) E E (zX E (qc (qR ?_))))))
   exact qaC (qC (zC E (zC E (SubT.cons (qaw E (by exact qan (by first|(rw [if_neg (show ¬ p.kind=5 by omega)];done)|(rw [if_pos (show p.kind=5 by omega)];done)))) (SubT.cons (qaw E (by exact qbs (by first|(rw [if_neg (show ¬ p.kind=6 by omega)];rfl)|(rw [if_pos (show p.kind=6 by omega)];done)))) SubT.nil)))) (SubO.cons (qU E (by rfl)) SubO.nil) E E (noL' (noL hL) _))
  simp only[↓cqA,cqB]at c5
  omega
 refine qd (qb (zA E (qe E qaP E) (zA E (qi E qB E E E E E) (zA E (qu E qy E) (zX E (zA E (qj E E E E) (zX E ?_)))))));refine qE 55 E (fun g55=>?_) (fun g55=>?_)
 ·simp only[↓cqA,cqB]at g55
  refine zZ E (qe E qaO E) (zZ E (qi E qB E E E E E) (zZ E (qu E qy E) (zZ E (ql (.inl E) E) (zZ E (qj E E E E) (zA E (qk E E E) (zX E (qE 62 E (fun g62=>?_) (fun g62=>?_))))))))
  ·simp only[↓cqA,cqB]at g62
   refine zZ E (qe E qaD E) (zZ E (qi E qB E E E E E) (zZ E (qu E qy E) (zZ E (ql (.inl E) E) (zZ E (qj E E E E) (zA E (qk E E E) (zX E (qE 69 E (fun g69=>?_) (fun g69=>?_))))))))
   ·simp only[↓cqA,cqB]at g69
    refine zZ E (ql (.inl E) E) (zA E (qk E E E) (zX E (qE 72 E (fun g72=>?_) (fun g72=>?_))))
    ·refine zZ E (qe E qa6 E) (zZ E (qi E qz E E E E E) (zZ E (qai (avs:=[_]) true E qoa E E (qoO p.t htw) (fun _=>rfl) E) (zA E (qk E E E) (zX E (zK (qn (zI hL (qg E qh) ?_ ?_)))))))
     ·rfl
     refine ⟨q7 ?_,rfl⟩
     rw [qbV,if_neg (by omega),if_pos hk,Bool.eq_iff_iff]
     by_cases h5:p.kind=5
     ·have h6:¬ p.kind=6:=by omega
      simp only [h5,h6,if_true,if_false] at*
      cases qb2 p.t<;>simp_all<;>omega
     ·by_cases h6:p.kind=6
      ·simp only [h5,h6,if_true,if_false] at*
       cases qb2 p.t<;>simp_all<;>omega
      ·simp only [h5,h6,if_true,if_false] at*
       cases qb2 p.t<;>simp_all<;>omega
    refine zY E (zY E (zY E (zA E (qk E E E) (zX E (zK (qn (zI hL (qg E qh) ?_ ?_)))))))
    ·rfl
    refine ⟨q7 ?_,rfl⟩
    rw [qbV,if_neg (by omega),if_pos hk,Bool.eq_iff_iff]
    by_cases h5:p.kind=5
    ·have h6:¬ p.kind=6:=by omega
     simp only [h5,h6,if_true,if_false] at*
     cases qb2 p.t<;>simp_all<;>omega
    ·by_cases h6:p.kind=6
     ·simp only [h5,h6,if_true,if_false] at*
      cases qb2 p.t<;>simp_all<;>omega
     ·simp only [h5,h6,if_true,if_false] at*
      cases qb2 p.t<;>simp_all<;>omega
   simp only[↓cqA,cqB]at g69
   refine zY E (zA E (qk E E E) (zX E (zY E (zY E (zY E (zA E (qk E E E) (zX E ?_)))))));refine zK (qn (zI hL (qg E qh) ?_ ?_))
   ·rfl
   refine ⟨q7 ?_,rfl⟩
   rw [qbV,if_neg (by omega),if_pos hk,Bool.eq_iff_iff]
   by_cases h5:p.kind=5
   ·have h6:¬ p.kind=6:=by omega
    simp only [h5,h6,if_true,if_false] at*
    cases qb2 p.t<;>simp_all<;>omega
   ·by_cases h6:p.kind=6
    ·simp only [h5,h6,if_true,if_false] at*
     cases qb2 p.t<;>simp_all<;>omega
    ·simp only [h5,h6,if_true,if_false] at*
     cases qb2 p.t<;>simp_all<;>omega
  simp only[↓cqA,cqB]at g62
  refine zY E (zY E (zY E (zY E (zY E (zA E (qk E E E) (zX E (zY E (zA E (qk E E E) (zX E (zY E (zY E (zY E (zA E (qk E E E) (zX E (zK (qn (zI hL (qg E qh) ?_ ?_)))))))))))))))))
  ·rfl
  refine ⟨q7 ?_,rfl⟩
  rw [qbV,if_neg (by omega),if_pos hk,Bool.eq_iff_iff]
  by_cases h5:p.kind=5
  ·have h6:¬ p.kind=6:=by omega
   simp only [h5,h6,if_true,if_false] at*
   cases qb2 p.t<;>simp_all<;>omega
  ·by_cases h6:p.kind=6
   ·simp only [h5,h6,if_true,if_false] at*
    cases qb2 p.t<;>simp_all<;>omega
   ·simp only [h5,h6,if_true,if_false] at*
    cases qb2 p.t<;>simp_all<;>omega
 simp only[↓cqA,cqB]at g55
 refine zY E (zY E (zY E (zY E (zY E (zA E (qk E E E) (zX E (zY E (zY E (zY E (zY E (zY E (zA E (qk E E E) (zX E (zY E (zA E (qk E E E) (zX E (zY E (zY E (zY E (zA E (qk E E E) (zX E (zK (qn ?_)))))))))))))))))))))))
 refine zI hL (qg E qh) ?_ ?_
 ·rfl
 refine ⟨q7 ?_,rfl⟩
 rw [qbV,if_neg (by omega),if_pos hk,Bool.eq_iff_iff]
 by_cases h5:p.kind=5
 ·have h6:¬ p.kind=6:=by omega
  simp only [h5,h6,if_true,if_false] at*
  cases qb2 p.t<;>simp_all<;>omega
 ·by_cases h6:p.kind=6
  ·simp only [h5,h6,if_true,if_false] at*
   cases qb2 p.t<;>simp_all<;>omega
  ·simp only [h5,h6,if_true,if_false] at*
   cases qb2 p.t<;>simp_all<;>omega
theorem qsq (p:Pt)(hp:p.wf):PF 227 [ptA false p] (bv (qbV p)):=by
 by_cases hk:2≤p.kind∧p.kind≤6
 ·exact qra p hp hk
 ·exact qsr p hp hk
end Go.Proofs.YtpgceiijoedppaaGreat