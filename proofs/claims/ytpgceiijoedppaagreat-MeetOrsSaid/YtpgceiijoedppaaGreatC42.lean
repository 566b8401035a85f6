/- Part 42 of the proof: Ob. -/
import Derived.Test.YtpgceiijoedppaaGreatC39
import Derived.Test.YtpgceiijoedppaaGreatC40
import Derived.Test.YtpgceiijoedppaaGreatC41
set_option linter.unusedVariables false
set_option linter.unusedSimpArgs false
set_option maxRecDepth 8000
namespace Go.Proofs.YtpgceiijoedppaaGreat
open Go
variable {k n:Nat}{α:Type}{l:List α}{p:α→Bool}
theorem qgi:AC Tryz.prog 145 [.imm (.slice none 0 0)] [] (fun r O=>r=.imm (.slice none 0 0)∧O=[]):=by
 refine qI Tryz.func145 E Tryz.ntmps145 zL fun c hL hQ hDD=>(qd (qb (zX E (zK (qd (qb ?_))))));refine zX E (qab (qam (t:=3) (l:=9) 55 4 false E E) (qsC Tryz.srtM (k:=4) zD qK (sf:=209) E qfn qcf (toD:=mtD) (es:=([]:List Mt)) (cf:=cmpM) E E zD E E E E zD (fun x hx=>by cases hx) (fun x hx=>by cases hx) (fun x hx=>by cases hx) (fun x hx=>by cases hx) (fun es' hp hs=>?_)))
 refine zK (qd (qb (zX E (qH (avs:=[_,_]) true E E E zD qb4 E E (qjV _) E E (zX E (qc ?_))))));refine qa (qn (zI hL (qg E qh) ?_ ?_))
 ·rfl
 exact ⟨rfl,rfl⟩
theorem qhq (ts:List Mt)(hlen:ts.length≤1000000000)(cap:Nat)(hc1:ts.length≤cap)(hc2:cap≤maxLen)(hn:n≤1000000)(hm:∀ m∈ts,MOk n m):AC Tryz.prog 145 [.vw 0 0 ts.length cap] [(0,.arr 55 4 false ((mtDs ts).map some++List.replicate (cap-ts.length) none))] (fun r O=>∃ A':List (Option (List D)),A'.length=cap∧(∀ (q:Nat) (x:Mt),(qcb ts)[q]?=some x→A'[q]?=some (some (mtD x)))∧r=.vw 0 0 (qcb ts).length cap∧O=[(0,.arr 55 4 false A')]):=by
 have hio:∀ x∈ts,x.wf∧∀ y∈x.b,dle 5 y.t:=fun x hx=>(hm x hx).io hn
 refine qI Tryz.func145 E Tryz.ntmps145 zL fun c hL hQ hDD=>(qd (qb (zX E (zK (qd (qb ?_))))));refine zX E ?_
 refine qos Tryz.srtM (k:=4) zD qK (sf:=209) E qfn qcf (toD:=mtD) (es:=ts) (cf:=cmpM) (q:=cap) E E zD E E E E E hc1 zO (fun x hx y hy=>qhV _ _ (hio x hx).2 (hio x hx).1 (hio y hy).1) (fun x _=>by rw [TP.mt.self];decide) (fun x _ y _ z _ h1 h2=>TP.mt.lt1 h1 zO) (fun x _ y _ z _ h1 h2 h3=>?_) (fun es' hp hs=>?_)
 ·have h4:=TP.mt.anti x y
  have h5:=TP.mt.anti y z
  have h6:=TP.mt.anti x z
  have h7:=TP.mt.tr z y x (by omega) (by omega)
  omega
 have hcomp:=qrZ (fun x hx=>(hm x hx).may) hp hs
 have hel:=hp.length_eq
 have hes:∀ x∈es',x.wf∧∀ y∈x.b,dle 5 y.t:=fun x hx=>hio x (hp.mem_iff.1 hx)
 have hcc:=qjp es' (by omega) cap (by omega) hc2 cmpM (fun a ha b hb=>once1_ok a b (hes a ha).2 (hes a ha).1 (hes b hb).1)
 rw [hcomp,hel] at hcc
 rw [hel]
 refine qc ?_;refine qa ?_;refine qd ?_;refine qb ?_;refine zX E ?_;refine qag (avs:=[_,_]) false E E E zD qb4 E E (hcc) E (qbQ (.cons E trivial E .nil)) (by rintro r O' ⟨A',_,_,_,rfl⟩;exact frB E) (by rintro h;cases h) ?_
 rintro r2 O' ⟨A',hA1,hA2,rfl,rfl⟩
 refine zX E (zK (qn ?_))
 change retQ _ _ _ _ _ _ _
 refine retO (O':=[(0,_)]) (.inl E) (qg E qh) (SubO.cons E SubO.nil) ?_ ?_ (LO hL E) ?_
 ·rfl
 ·rfl
 exact ⟨_,hA1,hA2,rfl,rfl⟩
theorem qrs (f:Bool)(n:Nat)(hn:n*8≤140737488355328):AC Tryz.prog 323 [.imm (.slice none 0 0),iv n] [] (fun r O=>r=.row 7∧O=[(7,.rowd 3 1 f [])]):=by
 refine qI Tryz.func323 E Tryz.ntmps323 zL fun c hL hQ hDD=>(qd (qb (zX E (zK (qd (qd ?_))))));refine qb (zX E (zA E (qj E E E E) (zK (qo E (fun c0=>?_) (fun c0=>?_)))))
 ·simp only[↓cqA,cqB]at c0
  omega
 simp only[↓cqA,cqB]at c0
 refine qr (qa (qd (qd (qb (zX E (zX E (zA E (qex E qaW E) ?_)))))));refine zX E (zA E (qcB E qaW E) ?_)
 refine zA E (qa3 E E E zO) (zA E (qa3 E E E zO) (zX E (zK (qd (qb (zX E ?_))))));refine zA E (qj E E E E) (zK (qo E (fun c1=>?_) (fun c1=>?_)))
 ·simp only[↓cqA,cqB]at c1
  refine qb (zX E (zX E (zA E (qex E qaW E) (zA E (qms E qaW E E zO) (zX E (qfO 7 f qin E E zD E E E E zO E zO zD fun cap hc1 hc2=>(zX E ?_)))))))
  refine zA E (qcB E qaW E) (zA E (qe6 E qaW E E zO zO zO) (zX E (zK (qd (qb (zX E ?_))))));refine zX E (zK (qn ?_))
  change retQ _ _ _ _ _ _ _
  refine retS (Sub.trans (qbm (l:=7) (cap:=cap) (n:=0) [] E (noL hL _) ⟨List.replicate cap none,rfl⟩ E (by simp)) (qC (T1:=[(4,.row 7)]) (O1:=[(7,_)]) (SubT.cons (qaw rfl (by simp [AV.rp,clV])) SubT.nil) (SubO.cons rfl SubO.nil) rfl rfl (noL' (noL hL) _))) (retO (O':=[(7,_)]) (.inl rfl) (qg rfl qh) (SubO.cons rfl SubO.nil) ?_ ?_ (noL' (noL hL) _) ?_)
  ·rfl
  ·rfl
  exact ⟨rfl,rfl⟩
 simp only[↓cqA,cqB]at c1
 refine qr (qa (qd (qb (zX E (zX E (zK ?_))))));refine qn ?_
 change retQ _ _ _ _ _ _ _
 refine retS (qam (t:=4) (l:=7) 3 1 f E E) (retO (O':=[(7,_)]) (.inl E) (qg E qh) (SubO.cons E SubO.nil) ?_ ?_ (noL' (noL hL) _) ?_)
 ·rfl
 ·rfl
 exact ⟨rfl,rfl⟩
theorem qoC (rs:List (List (List D)))(hes:∀ es∈rs,∀ d∈es,d.length=1)(hb:rs.flatten.length*8≤140737488355328)(hn:rs.length≤140737488351232):AC Tryz.prog 295 [.dat false 1 (rs.map fun es=>[D.sl 1 es])] [] (fun r O=>r=.row 6∧O=[(6,.rowd 3 1 false rs.flatten)]):=by
 have hlr:(rs.map fun es=>[D.sl 1 es]).length=rs.length:=List.length_map ..
 have hget:∀ {i:Nat} {es:List (List D)},rs[i]?=some es→(rs.map fun es=>[D.sl 1 es])[i]?=some [D.sl 1 es]:=fun {i es} h=>by simp [h]
 refine qI Tryz.func295 E Tryz.ntmps295 zL fun c hL hQ hDD=>(qd (qb (zX E (zK (qd (qb ?_))))));refine zX E (zK (qd (qd (qb (zX E (zA E (qu E qfU E) (zX E (zK (qv (qac (rs.length) (fun k=>k≤rs.length) (fun k=>⟨[(0,.dat false 1 (rs.map fun es=>[D.sl 1 es])),(3,iv ((rs.take k).flatten.length:Int)),(9,.dat false 1 (rs.map fun es=>[D.sl 1 es])),(10,iv (rs.map fun es=>[D.sl 1 es]).length),(11,iv (k:Int))],[]⟩) zO ?_ (fun k hk hp=>?_)))))))))))
 ·exact zR hL (zC E (zC E (zC E (zC E (zC E SubT.nil))))) SubO.nil
 have hfl:=qfK rs k
 refine qd (qb (zA E (qj E E E E) (zK (qd (qo E (fun c0=>?_) (fun c0=>?_))))))
 ·simp only[↓cqA,cqB]at c0
  obtain ⟨es,hu⟩:=qM (l:=rs) (k:=k) (by omega)
  have hfs:=qf7 hu
  have hfl2:=qfK rs (k+1)
  have hfa:(rs.take (k+1)).flatten.length=(rs.take k).flatten.length+es.length:=by rw [hfs,List.length_append]
  refine qr (qa (qd (qv (qd (qb (zA E (qp E qfU E E zO (hget hu)) (zA E (qW E qbZ E) ?_)))))));refine zX E (zK (qd (qb (zX E (zX E ?_)))))
  refine zA E (qu E qaW E) (zA E (qO E E E zO) (zX E (zK (qd (qb (zX E ?_))))));refine zA E (qj E E E E) (zK (qo E (fun c1=>?_) (fun c1=>?_)))
  ·simp only[↓cqA,cqB]at c1
   omega
  simp only[↓cqA,cqB]at c1
  refine qr (qR (qa (qb (zA E (qO E E E zO) (zX E (zK ?_))))));refine ⟨?_,?_,?_⟩
  ·omega
  ·omega
  exact zR hL (zC E (SubT.cons (qaw E (by rw [hfa];exact qbx zO)) (zC E (zC E (zC E SubT.nil))))) SubO.nil
 simp only[↓cqA,cqB]at c0
 have hk1:rs.take k=rs:=List.take_of_length_le (by omega)
 rw [hk1]
 refine qV ?_;refine qq (qq (qad ?_));refine qa ?_;refine qd ?_;refine qb ?_;refine zX E ?_;refine qag (avs:=[_,_]) true E E E zD qgS E E (qrs true rs.flatten.length hb) E (qbQ .nil) (by rintro r O' ⟨_,rfl⟩;exact frB E) (by rintro-r O' ⟨rfl,rfl⟩;exact ⟨rfl,rfl⟩) ?_
 rintro r O' ⟨rfl,rfl⟩
 refine qab (qdi hQ) (zX E (zK (qd (qd (qb (zX E ?_))))));refine zA E (qu E qfU E) (zX E (zK (qv (qac (rs.length) (fun k=>k≤rs.length) (fun k=>⟨[(6,.row 6),(25,.dat false 1 (rs.map fun es=>[D.sl 1 es])),(26,iv (rs.map fun es=>[D.sl 1 es]).length),(27,iv (k:Int))],[(6,.rowd 3 1 false (rs.take k).flatten)]⟩) zO ?_ (fun k hk hp=>?_)))))
 ·exact Sub.trans (qZ 7 6 (noL hL _) (noL hL _)) (qC (zC E (zC E (zC E (zC E SubT.nil)))) (SubO.cons (qU E (by rfl)) SubO.nil) E E (noL' (noL hL) _))
 refine qd (qb (zA E (qj E E E E) (zK (qd (qo E (fun c2=>?_) (fun c2=>?_))))))
 ·simp only[↓cqA,cqB]at c2
  obtain ⟨es,hu⟩:=qM (l:=rs) (k:=k) (by omega)
  have hes1:=hes es (List.mem_of_getElem? hu)
  have hfs:=qf7 hu
  have hfl2:=qfK rs (k+1)
  have hfa:(rs.take (k+1)).flatten.length=(rs.take k).flatten.length+es.length:=by rw [hfs,List.length_append]
  refine qr (qa (qd (qv (qd (qb (zA E (qp E qfU E E zO (hget hu)) (zA E (qW E qbZ E) (zX E (zK (qb (zX E (zX E (qcG 33 qin E E zD E E E (qmy hes1 E) E hes1 (noL hL _) E zO E ?_)))))))))))))
  refine zX E (qc (qR (qa (qb (zA E (qO E E E zO) (zX E (qc ?_)))))));refine qa ?_;refine ⟨?_,?_,?_⟩
  ·omega
  ·omega
  exact Sub.trans (qZ 33 6 (noL hL _) (noL hL _)) (qC (zC E (zC E (zC E (zC E SubT.nil)))) (SubO.cons (qU E (by rw [hfs];rfl)) SubO.nil) E E (noL' (noL hL) _))
 simp only[↓cqA,cqB]at c2
 refine qV (qq (qq (qad ?_)));refine qa (qd (qb (zX E (zX E (zK (qn ?_))))))
 change retQ _ _ _ _ _ _ _
 refine retO (O':=[(6,_)]) (.inl E) (qg E qh) (SubO.cons E SubO.nil) ?_ ?_ (noL' (noL hL) _) ?_
 ·rfl
 ·rfl
 exact ⟨rfl,by rw [List.take_of_length_le zO]⟩
theorem Fit0_ok (t:Tm)(hd:dle 5 t)(hs:t.shp)(hw:t.wf)(u:Tm)(hu:u.wf)(hm:mayT u=true):PF 204 [.imm (.slice none 0 0),tmA false t,tmA false u] (.tup [bdA (fitR 5 [] t u).1,iv (fitR 5 [] t u).2]):=
 AC_le (.cons .nil (.cons .refl (.cons .refl .nil))) (Fit_ok 5 [] t u hd hs hw qqI.gb.bok hu hm)
theorem qo0 (t:Tm)(hd:dle 5 t)(hs:t.shp)(hw:t.wf)(k:Kp)(hk:k.wf)(hm:mayT k.f.t=true):PF 142 [tmA false t,kpA k] (.tup [mtA (tryM t k),bv (decide ((fitR 5 [] t k.f.t).2=0))]):=by
 refine qI Tryz.func142 E Tryz.ntmps142 zL fun c hL hQ hDD=>(qd (qb (qt E E zD (q6 2 E E E) E (qt E E zD (q6 3 E E E) E (qt E E zD (qat 4 E qao E) E (zX E (qc ?_)))))));refine qa (qd (qb (zA E (qF E qz E E E E) (zA E (qe E qaM E) (zA E (qe E qbh E) (zA E (qi E qz E E E E E) (qH (avs:=[_,_,_]) false E E E zD qjz E E (Fit0_ok t hd hs hw k.f.t hk.2.1 hm) E E (zX E (zA E (qS E E E) (zA E (qS E E E) ?_))))))))))
 refine zX E (zX E (zK (qd (qb (zX E (zA E (qe E qaM E) ?_))))));refine zA E (qe E qct E) (zA E (qi E qav E E E E E) (zA E (qe E qa4 E) (zA E (qi E qQ E E E E E) (zA E (qbk false E qaW qhR E E zD zD zD E E E E) (zA E (qaF E qao E qbd E E) (zX E (zA E (qj E E E E) (qT E E E qK E E E E E E E E E (zX E (zK (qn (zI hL (qaS qK E E E (qg E qh)) ?_ ?_))))))))))))
 ·rfl
 exact ⟨rfl,rfl⟩
theorem turn_ok (r:Int)(hr:-1000≤r∧r≤1000):PF 341 [iv r] (iv (14-r)):=by
 refine qI Tryz.func341 E Tryz.ntmps341 zL fun c hL hQ hDD=>(qd (qb (zX E (zK (qd (qb ?_))))));refine zX E (zA E (qa3 E E E zO) (zX E (zK (qn (zI hL (qg E qh) ?_ ?_)))))
 ·rfl
 exact ⟨rfl,rfl⟩
theorem so1_ok (r:Int)(hr:1≤r∧r≤7)(a b u v:Int):PF 320 [iv r,.agg [iv a,iv b],.agg [iv u,iv v]] (bv (isR1 r (a,b) (u,v))):=by
 refine qI Tryz.func320 E Tryz.ntmps320 zL fun c hL hQ hDD=>(qd (qb (qt E E zD (q6 4 E E E) E (qt E E zD (q6 5 E E E) E (zX E (zK ?_))))))
 refine qd (qd (qb (zX E (zK (qv (qd ?_))))));refine qb (zA E (qj E E E E) (zX E (zK (qo E (fun c0=>?_) (fun c0=>?_)))))
 ·simp only[↓cqA,cqB]at c0
  refine qd (qb (zA E (qe E qak E) (zA E (qi E qQ E E E E E) (zA E (qe E qal E) (zA E (qi E qQ E E E E E) (zA E (qj E E E E) (zX E ?_)))))));refine zK (qn (qP (qm (zI hL (qg E qh) ?_ ?_))))
  ·rfl
  refine ⟨q7 ?_,rfl⟩
  simp only [isR1]
  rw [Bool.eq_iff_iff]
  repeat' split
  all_goals first|(exfalso;omega)|(simp;omega)|(simp;done)
 simp only[↓cqA,cqB]at c0
 refine qd (qb (zA E (qj E E E E) (zX E (zK (qo E (fun c1=>?_) (fun c1=>?_))))))
 ·simp only[↓cqA,cqB]at c1
  refine qd (qb (zA E (qe E qak E) (zA E (qi E qQ E E E E E) (zA E (qe E qal E) (zA E (qi E qQ E E E E E) (zA E (qj E E E E) (zX E ?_)))))));refine zK (qn (qP (qm (zI hL (qg E qh) ?_ ?_))))
  ·rfl
  refine ⟨q7 ?_,rfl⟩
  simp only [isR1]
  rw [Bool.eq_iff_iff]
  repeat' split
  all_goals first|(exfalso;omega)|(simp;omega)|(simp;done)
 simp only[↓cqA,cqB]at c1
 refine qd (qb (zA E (qj E E E E) (zX E (zK (qo E (fun c2=>?_) (fun c2=>?_))))))
 ·simp only[↓cqA,cqB]at c2
  refine qd (qb (zA E (qe E qal E) (zA E (qi E qQ E E E E E) (zA E (qe E qal E) (zA E (qi E qQ E E E E E) (zA E (qj E E E E) (zX E ?_)))))));refine qE 29 E (fun g29=>?_) (fun g29=>?_)
  ·simp only[↓cqA,cqB]at g29
   refine zZ E (qe E qal E) (zZ E (qi E qQ E E E E E) (zZ E (qe E qak E) (zZ E (qi E qQ E E E E E) (zZ E (qj E E E E) (zA E (qk E E E) (zX E (qE 36 E (fun g36=>?_) (fun g36=>?_))))))))
   ·simp only[↓cqA,cqB]at g36
    refine zZ E (qe E qak E) (zZ E (qi E qQ E E E E E) (zZ E (qe E qak E) (zZ E (qi E qQ E E E E E) (zZ E (qj E E E E) (zA E (qk E E E) (zX E (zK (qn (qP (qm (zI hL (qg E qh) ?_ ?_)))))))))))
    ·rfl
    refine ⟨q7 ?_,rfl⟩
    simp only [isR1]
    rw [Bool.eq_iff_iff]
    repeat' split
    all_goals first|(exfalso;omega)|(simp;omega)|(simp;done)
   simp only[↓cqA,cqB]at g36
   refine zY E (zY E (zY E (zY E (zY E (zA E (qk E E E) (zX E (qc ?_)))))));refine qa (qn (qP (qm (zI hL (qg E qh) ?_ ?_))))
   ·rfl
   refine ⟨q7 ?_,rfl⟩
   simp only [isR1]
   rw [Bool.eq_iff_iff]
   repeat' split
   all_goals first|(exfalso;omega)|(simp;omega)|(simp;done)
  simp only[↓cqA,cqB]at g29
  refine zY E (zY E (zY E (zY E (zY E (zA E (qk E E E) (zX E (zY E (zY E (zY E (zY E (zY E (zA E (qk E E E) (zX E (zK (qn (qP (qm (zI hL (qg E qh) ?_ ?_))))))))))))))))))
  ·rfl
  refine ⟨q7 ?_,rfl⟩
  simp only [isR1]
  rw [Bool.eq_iff_iff]
  repeat' split
  all_goals first|(exfalso;omega)|(simp;omega)|(simp;done)
 simp only[↓cqA,cqB]at c2
 refine qd (qb (zA E (qj E E E E) (zX E (zK (qo E (fun c3=>?_) (fun c3=>?_))))))
 ·simp only[↓cqA,cqB]at c3
  refine qd (qb (zA E (qe E qal E) (zA E (qi E qQ E E E E E) (zA E (qe E qal E) (zA E (qi E qQ E E E E E) (zA E (qj E E E E) (zX E ?_)))))));refine qE 50 E (fun g50=>?_) (fun g50=>?_)
  ·simp only[↓cqA,cqB]at g50
   refine zZ E (qe E qak E) (zZ E (qi E qQ E E E E E) (zZ E (qe E qak E) (zZ E (qi E qQ E E E E E) (zZ E (qj E E E E) (zA E (qk E E E) (zX E (zK (qn (qP (qm (zI hL (qg E qh) ?_ ?_)))))))))))
   ·rfl
   refine ⟨q7 ?_,rfl⟩
   simp only [isR1]
   rw [Bool.eq_iff_iff]
   repeat' split
   all_goals first|(exfalso;omega)|(simp;omega)|(simp;done)
  simp only[↓cqA,cqB]at g50
  refine zY E (zY E (zY E (zY E (zY E (zA E (qk E E E) (zX E (qc ?_)))))));refine qa (qn (qP (qm (zI hL (qg E qh) ?_ ?_))))
  ·rfl
  refine ⟨q7 ?_,rfl⟩
  simp only [isR1]
  rw [Bool.eq_iff_iff]
  repeat' split
  all_goals first|(exfalso;omega)|(simp;omega)|(simp;done)
 simp only[↓cqA,cqB]at c3
 refine qd (qb (zA E (qj E E E E) (zX E (zK (qo E (fun c4=>?_) (fun c4=>?_))))))
 ·simp only[↓cqA,cqB]at c4
  refine qd (qb (zA E (qe E qal E) (zA E (qi E qQ E E E E E) (zA E (qe E qal E) (zA E (qi E qQ E E E E E) (zA E (qj E E E E) (zX E ?_)))))));refine qE 64 E (fun g64=>?_) (fun g64=>?_)
  ·simp only[↓cqA,cqB]at g64
   refine zZ E (qe E qak E) (zZ E (qi E qQ E E E E E) (zZ E (qe E qak E) (zZ E (qi E qQ E E E E E) (zZ E (qj E E E E) (zA E (qk E E E) (zX E (zK (qn (qP (qm (zI hL (qg E qh) ?_ ?_)))))))))))
   ·rfl
   refine ⟨q7 ?_,rfl⟩
   simp only [isR1]
   rw [Bool.eq_iff_iff]
   repeat' split
   all_goals first|(exfalso;omega)|(simp;omega)|(simp;done)
  simp only[↓cqA,cqB]at g64
  refine zY E (zY E (zY E (zY E (zY E (zA E (qk E E E) (zX E (qc ?_)))))));refine qa (qn (qP (qm (zI hL (qg E qh) ?_ ?_))))
  ·rfl
  refine ⟨q7 ?_,rfl⟩
  simp only [isR1]
  rw [Bool.eq_iff_iff]
  repeat' split
  all_goals first|(exfalso;omega)|(simp;omega)|(simp;done)
 simp only[↓cqA,cqB]at c4
 refine qd (qb (zA E (qj E E E E) (zX E (zK (qo E (fun c5=>?_) (fun c5=>?_))))))
 ·simp only[↓cqA,cqB]at c5
  refine qd (qb (zA E (qe E qak E) (zA E (qi E qQ E E E E E) (zA E (qe E qak E) (zA E (qi E qQ E E E E E) (zA E (qj E E E E) (zX E ?_)))))));refine qE 78 E (fun g78=>?_) (fun g78=>?_)
  ·simp only[↓cqA,cqB]at g78
   refine zZ E (qe E qal E) (zZ E (qi E qQ E E E E E) (zZ E (qe E qal E) (zZ E (qi E qQ E E E E E) (zZ E (qj E E E E) (zA E (qk E E E) (zX E (zK (qn (qP (qm (zI hL (qg E qh) ?_ ?_)))))))))))
   ·rfl
   refine ⟨q7 ?_,rfl⟩
   simp only [isR1]
   rw [Bool.eq_iff_iff]
   repeat' split
   all_goals first|(exfalso;omega)|(simp;omega)|(simp;done)
  simp only[↓cqA,cqB]at g78
  refine zY E (zY E (zY E (zY E (zY E (zA E (qk E E E) (zX E (qc ?_)))))));refine qa (qn (qP (qm (zI hL (qg E qh) ?_ ?_))))
  ·rfl
  refine ⟨q7 ?_,rfl⟩
  simp only [isR1]
  rw [Bool.eq_iff_iff]
  repeat' split
  all_goals first|(exfalso;omega)|(simp;omega)|(simp;done)
 simp only[↓cqA,cqB]at c5
 refine qd (qb (zA E (qj E E E E) (zX E (zK (qo E (fun c6=>?_) (fun c6=>?_))))))
 ·simp only[↓cqA,cqB]at c6
  refine qd (qb (zA E (qF E qav E E E E) (zA E (qF E qav E E E E) (zA E (qfd E E E) (zX E (zK ?_))))));refine qn (qP (qm (zI hL (qg E qh) ?_ ?_)))
  ·rfl
  refine ⟨q7 ?_,rfl⟩
  simp only [isR1]
  rw [Bool.eq_iff_iff]
  repeat' split
  all_goals first|(exfalso;omega)|(simp;omega)|(simp;done)
 simp only[↓cqA,cqB]at c6
 omega
theorem so_ok (r:Int)(hr:1≤r∧r≤13)(a b u v:Int):PF 320 [iv r,.agg [iv a,iv b],.agg [iv u,iv v]] (bv (isR r (a,b) (u,v))):=by
 by_cases h7:r≤7
 ·rw [isR,if_pos h7];exact so1_ok r ⟨hr.1,h7⟩ a b u v
 ·rw [isR,if_neg h7]
  refine qI Tryz.func320 E Tryz.ntmps320 zL fun c hL hQ hDD=>(qd (qb (qt E E zD (q6 4 E E E) E (qt E E zD (q6 5 E E E) E (zX E (zK ?_))))))
  refine qd (qd (qb (zX E (zK (qv (qd ?_))))));refine qb (zA E (qj E E E E) (zX E (zK (qo E (fun c0=>?_) (fun c0=>?_)))))
  ·simp only[↓cqA,cqB]at c0
   omega
  simp only[↓cqA,cqB]at c0
  refine qd (qb (zA E (qj E E E E) (zX E (zK (qo E (fun c1=>?_) (fun c1=>?_))))))
  ·simp only[↓cqA,cqB]at c1
   omega
  simp only[↓cqA,cqB]at c1
  refine qd (qb (zA E (qj E E E E) (zX E (zK (qo E (fun c2=>?_) (fun c2=>?_))))))
  ·simp only[↓cqA,cqB]at c2
   omega
  simp only[↓cqA,cqB]at c2
  refine qd (qb (zA E (qj E E E E) (zX E (zK (qo E (fun c3=>?_) (fun c3=>?_))))))
  ·simp only[↓cqA,cqB]at c3
   omega
  simp only[↓cqA,cqB]at c3
  refine qd (qb (zA E (qj E E E E) (zX E (zK (qo E (fun c4=>?_) (fun c4=>?_))))))
  ·simp only[↓cqA,cqB]at c4
   omega
  simp only[↓cqA,cqB]at c4
  refine qd (qb (zA E (qj E E E E) (zX E (zK (qo E (fun c5=>?_) (fun c5=>?_))))))
  ·simp only[↓cqA,cqB]at c5
   omega
  simp only[↓cqA,cqB]at c5
  refine qd (qb (zA E (qj E E E E) (zX E (zK (qo E (fun c6=>?_) (fun c6=>?_))))))
  ·simp only[↓cqA,cqB]at c6
   omega
  simp only[↓cqA,cqB]at c6
  refine qr (qR (qa (qd (qX 4 mixed E E E E (zU E (ql (.inl E) E) (zU E (qai (avs:=[_]) true E qn9 E E (turn_ok r zO) (fun _=>rfl) E) (zU E (qF E qav E E E E) ?_)))))));refine zU E (qF E qav E E E E) ?_
  refine qaq ⟨rfl,rfl,?_⟩;refine qH (avs:=[_,_,_]) true E E E zD qjm E E (so1_ok (14-r) zO u v a b) E E (zX E (zK (qn (zI hL (qg E qh) ?_ ?_))))
  ·rfl
  exact ⟨rfl,rfl⟩
theorem qsI (a b u v:Int):PF 294 [.agg [iv a,iv b],.agg [iv u,iv v]] (.agg [iv (min a u),iv (max b v)]):=by
 refine qI Tryz.func294 E Tryz.ntmps294 zL fun c hL hQ hDD=>(qd (qb (qt E E zD (q6 2 E E E) E (qt E E zD (q6 3 E E E) E (qt E E zD (qat 4 E qd2 E) E (zK ?_))))));refine qd (qb (zA E (qe E qal E) (zA E (qi E qQ E E E E E) (zA E (qe E qal E) (zA E (qi E qQ E E E E E) (zA E (qi9 E E E) (zA E (qe E qak E) (zA E (qi E qQ E E E E E) (zA E (qe E qak E) (zA E (qi E qQ E E E E E) (zA E (qrI E E E) (zA E (qaF E qd2 E qfk E E) (qT E E E qav E E E E E E E E E (zK (qn ?_)))))))))))))))
 refine zI hL (qaS qav E E E qh) ?_ ?_
 ·rfl
 exact ⟨by rw [qkM,max_if];rfl,rfl⟩
theorem lies_ok (kind rel:Int)(a b:Mt)(hr:kind=6→1≤rel∧rel≤13):PF 291 [iv kind,iv rel,.agg [iv a.fr,iv a.to],.agg [iv b.fr,iv b.to]] (bv (qfI kind rel a b)):=by
 refine qI Tryz.func291 E Tryz.ntmps291 zL fun c hL hQ hDD=>(qd (qb (qt E E zD (q6 6 E E E) E (qt E E zD (q6 7 E E E) E (zX E (zK ?_))))))
 refine qd (qd (qb (zX E (zK (qv (qd ?_))))));refine qd (qb (zA E (qj E E E E) (zX E (zK (qo E (fun c0=>?_) (fun c0=>?_))))))
 ·simp only[↓cqA,cqB]at c0
  refine qr (qa (qo E (fun c1=>?_) (fun c1=>?_)))
  ·simp only[↓cqA,cqB]at c1
   refine qd (qb (zA E (qe E qak E) (zA E (qi E qQ E E E E E) (zA E (qe E qal E) (zA E (qi E qQ E E E E E) (zA E (qj E E E E) (zX E (zK (qn (qP (qm (zI hL (qg E qh) ?_ ?_))))))))))))
   ·rfl
   refine ⟨q7 ?_,rfl⟩
   rw [qfI]
   first
    | (rw [if_pos (show kind=2∨kind=5 by omega)];done)
    | (rw [if_pos (show kind=2∨kind=5 by omega)];rfl)
    | (rw [if_neg (show ¬ (kind=2∨kind=5) by omega),if_pos (show kind=6 by assumption)];done)
    | (rw [if_neg (show ¬ (kind=2∨kind=5) by omega),if_neg (show ¬ kind=6 by assumption)];done)
    | trace_state
  simp only[↓cqA,cqB]at c1
  refine qd (qb (zA E (qj E E E E) (zX E (zK (qo E (fun c2=>?_) (fun c2=>?_))))))
  ·simp only[↓cqA,cqB]at c2
   refine qd (qb (zX E (zA E (qF E qav E E E E) (zA E (qF E qav E E E E) (qH (avs:=[_,_,_]) true E E E zD qjm E E (so_ok rel (hr (by assumption)) a.fr a.to b.fr b.to) E E (zX E (zK (qn (qP (qm (zI hL (qg E qh) ?_ ?_)))))))))))
   ·rfl
   refine ⟨q7 ?_,rfl⟩
   rw [qfI]
   first
    | (rw [if_pos (show kind=2∨kind=5 by omega)];done)
    | (rw [if_pos (show kind=2∨kind=5 by omega)];rfl)
    | (rw [if_neg (show ¬ (kind=2∨kind=5) by omega),if_pos (show kind=6 by assumption)];done)
    | (rw [if_neg (show ¬ (kind=2∨kind=5) by omega),if_neg (show ¬ kind=6 by assumption)];done)
    | trace_state
  simp only[↓cqA,cqB]at c2
  refine qr (qR (qa (qd (qb (zX E (zK ?_))))));refine qn (zI hL (qg E qh) ?_ ?_)
  ·rfl
  refine ⟨q7 ?_,rfl⟩
  rw [qfI]
  first
   | (rw [if_pos (show kind=2∨kind=5 by omega)];done)
   | (rw [if_pos (show kind=2∨kind=5 by omega)];rfl)
   | (rw [if_neg (show ¬ (kind=2∨kind=5) by omega),if_pos (show kind=6 by assumption)];done)
   | (rw [if_neg (show ¬ (kind=2∨kind=5) by omega),if_neg (show ¬ kind=6 by assumption)];done)
   | trace_state
 simp only[↓cqA,cqB]at c0
 refine qb (zA E (qj E E E E) (zX E (zK (qo E (fun c1=>?_) (fun c1=>?_)))))
 ·simp only[↓cqA,cqB]at c1
  refine qd (qb (zA E (qe E qak E) (zA E (qi E qQ E E E E E) (zA E (qe E qal E) (zA E (qi E qQ E E E E E) (zA E (qj E E E E) (zX E ?_)))))));refine zK (qn (qP (qm (zI hL (qg E qh) ?_ ?_))))
  ·rfl
  refine ⟨q7 ?_,rfl⟩
  rw [qfI]
  first
   | (rw [if_pos (show kind=2∨kind=5 by omega)];done)
   | (rw [if_pos (show kind=2∨kind=5 by omega)];rfl)
   | (rw [if_neg (show ¬ (kind=2∨kind=5) by omega),if_pos (show kind=6 by assumption)];done)
   | (rw [if_neg (show ¬ (kind=2∨kind=5) by omega),if_neg (show ¬ kind=6 by assumption)];done)
   | trace_state
 simp only[↓cqA,cqB]at c1
 refine qd (qb (zA E (qj E E E E) (zX E (zK (qo E (fun c2=>?_) (fun c2=>?_))))))
 ·simp only[↓cqA,cqB]at c2
  refine qd (qb (zX E (zA E (qF E qav E E E E) (zA E (qF E qav E E E E) (qH (avs:=[_,_,_]) true E E E zD qjm E E (so_ok rel (hr (by assumption)) a.fr a.to b.fr b.to) E E (zX E (qc ?_)))))));refine qa (qn (qP (qm (zI hL (qg E qh) ?_ ?_))))
  ·rfl
  refine ⟨q7 ?_,rfl⟩
  rw [qfI]
  first
   | (rw [if_pos (show kind=2∨kind=5 by omega)];done)
   | (rw [if_pos (show kind=2∨kind=5 by omega)];rfl)
   | (rw [if_neg (show ¬ (kind=2∨kind=5) by omega),if_pos (show kind=6 by assumption)];done)
   | (rw [if_neg (show ¬ (kind=2∨kind=5) by omega),if_neg (show ¬ kind=6 by assumption)];done)
   | trace_state
 simp only[↓cqA,cqB]at c2
 refine qr (qR (qa (qd (qb (zX E (zK ?_))))));refine qn (zI hL (qg E qh) ?_ ?_)
 ·rfl
 refine ⟨q7 ?_,rfl⟩
 rw [qfI]
 first
  | (rw [if_pos (show kind=2∨kind=5 by omega)];done)
  | (rw [if_pos (show kind=2∨kind=5 by omega)];rfl)
  | (rw [if_neg (show ¬ (kind=2∨kind=5) by omega),if_pos (show kind=6 by assumption)];done)
  | (rw [if_neg (show ¬ (kind=2∨kind=5) by omega),if_neg (show ¬ kind=6 by assumption)];done)
  | trace_state
theorem qrg (l:List Bd)(a b x:Mt)(hl:GG l)(hx:MOk n x):AC Tryz.prog 322 [mtA x,.ptr 15 0,.ptr 16 0,.ptr 14 0] [(15,.box (lift false (mtD a))),(16,.box (lift false (mtD b))),(14,.box [bdA l])] (fun r O=>r=bv (barB l a b x)∧O=[(15,.box (lift false (mtD a))),(16,.box (lift false (mtD b))),(14,.box [bdA l])]):=by
 have h1:=hl.gb.len
 have h2:=hx.gg.gb.len
 refine qI Tryz.func322 E Tryz.ntmps322 zL fun c hL hQ hDD=>(qd (qb (qt E E zD (q6 4 E E E) E (zX E (zK (qd ?_))))));refine qd (qb (zA E (qe E qae E) (zA E (qe E qal E) (zA E (qi E qQ E E E E E) (zA E (qe E qae E) (zA E (qe E qak E) (zA E (qi E qQ E E E E E) (zA E (qj E E E E) (zX E (qE 15 E (fun g15=>?_) (fun g15=>?_)))))))))))
 ·simp only[↓cqA,cqB]at g15
  refine zY E (zY E (zY E (zY E (zY E (zY E ?_)))))
  refine zY E (zA E (qk E E E) (zK (qa2 E (qd (qb (zX E ?_))))));refine zK (qn (qm ?_))
  change retQ _ _ _ _ _ _ _
  refine retO (O':=[(15,_),(16,_),(14,_)]) (.inl E) (qg E qh) (SubO.cons E (SubO.cons E (SubO.cons E SubO.nil))) ?_ ?_ (LO hL E) ?_
  ·rfl
  ·rfl
  refine ⟨q7 ?_,rfl⟩
  first
   | (symm;simp only [barB,Bool.and_eq_false_iff,decide_eq_false_iff_not];omega)
   | (simp only [barB];rw [decide_eq_true (show a.to<x.fr by omega),decide_eq_true (show x.to<b.fr by omega)];rfl)
   | trace_state
 simp only[↓cqA,cqB]at g15
 refine zZ E (qe E qae E) (zZ E (qe E qak E) (zZ E (qi E qQ E E E E E) (zZ E (qe E qae E) (zZ E (qe E qal E) (zZ E (qi E qQ E E E E E) (zZ E (qj E E E E) (zA E (qk E E E) (zK (qo E (fun c0=>?_) (fun c0=>?_))))))))))
 ·simp only[↓cqA,cqB]at c0
  refine qd (qb (zX E (zK (qn (qm ?_)))))
  change retQ _ _ _ _ _ _ _
  refine retO (O':=[(15,_),(16,_),(14,_)]) (.inl E) (qg E qh) (SubO.cons E (SubO.cons E (SubO.cons E SubO.nil))) ?_ ?_ (LO hL E) ?_
  ·rfl
  ·rfl
  refine ⟨q7 ?_,rfl⟩
  first
   | (symm;simp only [barB,Bool.and_eq_false_iff,decide_eq_false_iff_not];omega)
   | (simp only [barB];rw [decide_eq_true (show a.to<x.fr by omega),decide_eq_true (show x.to<b.fr by omega)];rfl)
   | trace_state
 simp only[↓cqA,cqB]at c0
 refine qr (qa (qd (qb (zA E (qi E qaK E E E E E) (zA E (qe E qaH E) (zA E (qi E qaK E E E E E) (qH (avs:=[_,_]) false E E E zD qjD E E (qsT l x.b hl.gb.bok hx.gg.gb.bok zO) E E (zX E (zA E (qS E E E) (zA E (qS E E E) ?_))))))))))
 refine zX E (zX E (zK (qd (qb (zX E (zA E (qj E E E E) ?_))))));refine zX E (zK (qn ?_))
 change retQ _ _ _ _ _ _ _
 refine retO (O':=[(15,_),(16,_),(14,_)]) (.inl E) (qg E qh) (SubO.cons E (SubO.cons E (SubO.cons E SubO.nil))) ?_ ?_ (LO hL E) ?_
 ·rfl
 ·rfl
 refine ⟨q7 ?_,rfl⟩
 first
  | (symm;simp only [barB,Bool.and_eq_false_iff,decide_eq_false_iff_not];omega)
  | (simp only [barB];rw [decide_eq_true (show a.to<x.fr by omega),decide_eq_true (show x.to<b.fr by omega)];rfl)
  | trace_state
def hitB {α:Type}(p:α→Bool)(l:List α)(k:Nat):Bool:=match l[k]? with|some x=>p x|none=>false
theorem qmP {x:α}(h:l[k]?=some x):hitB p l k=p x:=by rw [hitB,h]
theorem any_of {j:Nat}{b:Bool}(hf:∀ i,i<j→hitB p l i=false)(hc:(j<l.length∧hitB p l j=true∧b=true∧n=j+1)∨(j=l.length∧b=false∧n=j)):b=l.any p:=by
 rcases hc with ⟨h1,h2,rfl,_⟩|⟨h1,rfl,_⟩
 ·obtain ⟨x,hx⟩:=qM (l:=l) (k:=j) h1
  rw [qmP hx] at h2
  exact (List.any_eq_true.2 ⟨x,List.mem_of_getElem? hx,h2⟩).symm
 ·refine (List.any_eq_false.2 fun x hx=>?_).symm
  obtain ⟨i,hi⟩:=List.getElem?_of_mem hx
  have:=hf i (by rw [h1];exact (List.getElem?_eq_some_iff.1 hi).1)
  rw [qmP hi] at this
  rw [this];exact Bool.noConfusion
theorem qsB (l:List Bd)(a b:Mt)(cl:List Mt)(hl:GG l)(hc:∀ x∈cl,MOk n x)(hcl:cl.length≤1000000):PF 293 [bdA l,mtA a,mtA b,.dat false 4 (mtDs cl)] (bv (cl.any (barB l a b))):=by
 refine qI Tryz.func293 E Tryz.ntmps293 zL fun c hL hQ hDD=>(qd (qb (qt E E zD (q6 4 E E E) E (qt E E zD (q6 5 E E E) E (qt E E zD (q6 6 E E E) E (zX E (zK (qd (qb (zX E (qab (Sub.trans (qZ 4 14 (noL hL _) (noL hL _)) (Sub.trans (qZ 5 15 (noL hL _) (noL hL _)) (qZ 6 16 (noL hL _) (noL hL _)))) (zA E (qdz (vs:=[_,_,_]) E E) ?_))))))))))))
 refine qag (avs:=[_,_]) false E E E zD qdl E E (qi3 false cl _ E zO _ [.ptr 15 0,.ptr 16 0,.ptr 14 0] qjK (fun _=>[(15,.box (lift false (mtD a))),(16,.box (lift false (mtD b))),(14,.box [bdA l])]) (hitB (barB l a b) cl) ⟨fun k l=>rfl,fun k=>qbQ (.cons E trivial E (.cons E trivial E (.cons E trivial E .nil))),fun k=>rfl,fun k=>rfl,fun k=>rfl,fun k=>rfl,fun h=>by cases h⟩ (fun k x hx _=>by rw [qmP hx];exact qrg l a b x hl (hc x (List.mem_of_getElem? hx)))) E (qbQ (.cons E trivial E (.cons E trivial E (.cons E trivial E .nil)))) (by rintro r O' ⟨j,n,bb,_,_,_,_,rfl⟩;exact frB E) (by rintro h;cases h) ?_
 rintro r O' ⟨j,n,bb,hm1,hf1,hcc,rfl,rfl⟩
 have hany:=any_of hf1 hcc
 refine zX E (zK (qn (zI hL (qg E qh) ?_ ?_)))
 ·rfl
 exact ⟨q7 hany,rfl⟩
theorem Pair_ok (kind rel:Int){q:Nat}(hn:n≤1000000)(hk:k≤1000000)(a b:Mt)(ha:MOk n a)(hb:MOk k b)(cl:List Mt)(hc:∀ x∈cl,MOk q x)(hcl:cl.length≤1000000)(hr:kind=6→1≤rel∧rel≤13):PF 261 [iv kind,iv rel,mtA a,mtA b,.dat false 4 (mtDs cl)] (.tup [mtA ((qb0 kind rel cl a b).getD zeroM),bv (qb0 kind rel cl a b).isSome]):=by
 refine qkU ?_
 have h1:=ha.gg.gb.len
 have h2:=hb.gg.gb.len
 have hau:=ha.ul
 have hbu:=hb.ul
 have l1:=qbH a.u
 have l2:=qbH b.u
 have hgl:=qm8 ha.gg hb.gg
 have hfl:([inDs a.u,inDs b.u]:List (List (List D))).flatten=inDs (a.u++b.u):=by simp [inDs]
 have hcat:=qoC [inDs a.u,inDs b.u] (fun es he d hd=>by
  simp only [List.mem_cons,List.not_mem_nil,or_false] at he
  rcases he with rfl|rfl
  ·exact qiN _ d hd
  ·exact qiN _ d hd) (by simp;omega) (by simp)
 rw [hfl] at hcat
 refine qI Tryz.func261 E Tryz.ntmps261 zL fun c hL hQ hDD=>(qd (qb (qt E E zD (q6 7 E E E) E (qt E E zD (q6 8 E E E) E (qt E E zD (qat 10 E qao E) E ?_)))))
 refine zX E (zK (qd (qd (qb (zX E (zX E ?_))))));refine zA E (qe E qae E) (zA E (qi E qav E E E E E) (zA E (qe E qae E) (zA E (qi E qav E E E E E) (qH (avs:=[_,_,_,_]) true E E E zD qob E E (lies_ok kind rel a b hr) E E (zA E (qaB E E) (zK (qo E (fun c0=>?_) (fun c0=>?_))))))))
 ·simp only[↓cqA,cqB]at c0
  refine qd (qb (zA E (qaF E qao E qbd E E) (qT E E E qK E E E E E E E E E (zX E (zK (qn ?_))))));refine qm (zI hL (qaS qK E E E (qg E qh)) ?_ ?_)
  ·rfl
  first
  | (refine ⟨.inl ⟨?_,rfl⟩,rfl⟩;simp only [qb0];(repeat' split)<;>first|rfl|(exfalso;simp_all;done)|(exfalso;omega))
  | (refine ⟨.inr ⟨⟨qdT a.b b.b,min a.fr b.fr,max a.to b.to,a.u++b.u⟩,?_,rfl⟩,rfl⟩;simp only [qb0];(repeat' split)<;>first|rfl|(exfalso;simp_all;done)|(exfalso;omega))
  | trace_state
 simp only[↓cqA,cqB]at c0
 refine qr (qa (qd (qb (zA E (qe E qaH E) (zA E (qi E qaK E E E E E) (zA E (qe E qaH E) (zA E (qi E qaK E E E E E) (qH (avs:=[_,_]) false E E E zD qjD E E (qsT a.b b.b ha.gg.gb.bok hb.gg.gb.bok zO) E E (zX E (zA E (qS E E E) (zA E (qS E E E) ?_)))))))))))
 refine zX E (zX E (zK (qd (qd (qb (zX E ?_))))));refine zA E (qj E E E E) (zX E (qE 33 E (fun g33=>?_) (fun g33=>?_)))
 ·simp only[↓cqA,cqB]at g33
  refine zY E (zY E (zY E (zY E (zY E (zA E (qk E E E) ?_)))))
  refine zK (qa2 E (qd (qb (zA E (qaF E qao E qbd E E) (qT E E E qK E E E E E E E E E (zX E ?_))))));refine zK (qn (qm (zI hL (qaS qK E E E (qg E qh)) ?_ ?_)))
  ·rfl
  first
  | (refine ⟨.inl ⟨?_,rfl⟩,rfl⟩;simp only [qb0];(repeat' split)<;>first|rfl|(exfalso;simp_all;done)|(exfalso;omega))
  | (refine ⟨.inr ⟨⟨qdT a.b b.b,min a.fr b.fr,max a.to b.to,a.u++b.u⟩,?_,rfl⟩,rfl⟩;simp only [qb0];(repeat' split)<;>first|rfl|(exfalso;simp_all;done)|(exfalso;omega))
  | trace_state
 simp only[↓cqA,cqB]at g33
 refine zZ E (ql (.inl E) E) (zZ E (qF E qK E E E E) (zZ E (qF E qK E E E E) (zZ E (ql (.inl E) E) (zZ E (qai (avs:=[_,_,_,_]) true E qlx E E (qsB (qdT a.b b.b) a b cl hgl hc hcl) (fun _=>rfl) E) (zA E (qk E E E) (zK (qo E (fun c1=>?_) (fun c1=>?_))))))))
 ·refine qd (qb (zA E (qaF E qao E qbd E E) (qT E E E qK E E E E E E E E E (zX E (zK (qn ?_))))));refine qm (zI hL (qaS qK E E E (qg E qh)) ?_ ?_)
  ·rfl
  first
  | (refine ⟨.inl ⟨?_,rfl⟩,rfl⟩;simp only [qb0];(repeat' split)<;>first|rfl|(exfalso;simp_all;done)|(exfalso;omega))
  | (refine ⟨.inr ⟨⟨qdT a.b b.b,min a.fr b.fr,max a.to b.to,a.u++b.u⟩,?_,rfl⟩,rfl⟩;simp only [qb0];(repeat' split)<;>first|rfl|(exfalso;simp_all;done)|(exfalso;omega))
  | trace_state
 refine qr (qa (qd (qX 12 mixed E E E E (zU E (ql (.inl E) E) (zU E (qe E qae E) (zU E (qi E qav E E E E E) (zU E (qe E qae E) ?_)))))));refine zU E (qi E qav E E E E E) (zU E (qai (avs:=[_,_]) true E qlv E E (qsI a.fr a.to b.fr b.to) (fun _=>rfl) E) (zU E (qe E qaV E) (zU E (qi E qbZ E E E E E) (zU E (qe E qaV E) (zU E (qi E qbZ E E E E E) (zU E (qbk false E qfU zv_S_int E E zD zD zD E E E E) (qgO E E zD (qbn (avs:=[_]) false E qf9 E E (qc0 6 77 hcat) (fun _=>rfl) E) (qaq ⟨rfl,rfl,?_⟩))))))))
 refine qab (qaG (l:=77) E zD (noL hL _) E E) (zA E (qaF E qao E qbd E E) (qT E E E qK E E E E E E E E E (zX E (zK (qn (zI hL (qaS qK E E E (qg E qh)) ?_ ?_))))))
 ·rfl
 first
 | (refine ⟨.inl ⟨?_,rfl⟩,rfl⟩;simp only [qb0];(repeat' split)<;>first|rfl|(exfalso;simp_all;done)|(exfalso;omega))
 | (refine ⟨.inr ⟨⟨qdT a.b b.b,min a.fr b.fr,max a.to b.to,a.u++b.u⟩,?_,rfl⟩,rfl⟩;simp only [qb0];(repeat' split)<;>first|rfl|(exfalso;simp_all;done)|(exfalso;omega))
 | trace_state
end Go.Proofs.YtpgceiijoedppaaGreat