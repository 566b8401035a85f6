/- Part 44 of the proof: Od. -/
import Derived.Test.YtpgceiijoedppaaGreatC38
import Derived.Test.YtpgceiijoedppaaGreatC43
set_option linter.unusedVariables false
set_option linter.unusedSimpArgs false
set_option maxRecDepth 8000
namespace Go.Proofs.YtpgceiijoedppaaGreat
open Go
variable {l:List Kp}
theorem qrr (f:Bool)(n:Nat)(hn:n*64≤140737488355328):AC Tryz.prog 205 [.imm (.slice none 0 0),iv n] [] (fun r O=>r=.row 7∧O=[(7,.rowd 55 4 f [])]):=by
 refine qI Tryz.func205 E Tryz.ntmps205 zL fun c hL hQ hDD=>(qd (qb (zX E (zK (qd (qd ?_))))));refine qb (zX E (zA E (qj E E E E) (zK (qo E (fun c0=>?_) (fun c0=>?_)))))
 ·simp only[↓cqA,cqB]at c0
  omega
 simp only[↓cqA,cqB]at c0
 refine qr (qa (qd (qd (qb (zX E (zX E (zA E (qex E qw E) ?_)))))));refine zX E (zA E (qcB E qw E) ?_)
 refine zA E (qa3 E E E zO) (zA E (qa3 E E E zO) (zX E (zK (qd (qb (zX E ?_))))));refine zA E (qj E E E E) (zK (qo E (fun c1=>?_) (fun c1=>?_)))
 ·simp only[↓cqA,cqB]at c1
  refine qb (zX E (zX E (zA E (qex E qw E) (zA E (qms E qw E E zO) (zX E (qfO 7 f qbL E E zD E E E E zO E zO zD fun cap hc1 hc2=>(zX E (zA E (qcB E qw E) (zA E (qe6 E qw E E zO zO zO) ?_)))))))))
  refine zX E (zK (qd (qb (zX E (zX E (qc ?_))))));refine qa (qn ?_)
  change retQ _ _ _ _ _ _ _
  refine retS (Sub.trans (qbm (l:=7) (cap:=cap) (n:=0) [] E (noL hL _) ⟨List.replicate cap none,rfl⟩ E (by simp)) (qC (T1:=[(4,.row 7)]) (O1:=[(7,_)]) (SubT.cons (qaw rfl (by simp [AV.rp,clV])) SubT.nil) (SubO.cons rfl SubO.nil) rfl rfl (noL' (noL hL) _))) (retO (O':=[(7,_)]) (.inl rfl) (qg rfl qh) (SubO.cons rfl SubO.nil) ?_ ?_ (noL' (noL hL) _) ?_)
  ·rfl
  ·rfl
  exact ⟨rfl,rfl⟩
 simp only[↓cqA,cqB]at c1
 refine qr (qa (qd (qb (zX E (zX E (zK ?_))))));refine qn ?_
 change retQ _ _ _ _ _ _ _
 refine retS (qam (t:=4) (l:=7) 55 4 f E E) (retO (O':=[(7,_)]) (.inl E) (qg E qh) (SubO.cons E SubO.nil) ?_ ?_ (noL' (noL hL) _) ?_)
 ·rfl
 ·rfl
 exact ⟨rfl,rfl⟩
theorem qjG (rs:List (List (List D)))(hes:∀ es∈rs,∀ d∈es,d.length=4)(hb:rs.flatten.length*64≤140737488355328)(hn:rs.length≤140737488351232):AC Tryz.prog 143 [.dat false 1 (rs.map fun es=>[D.sl 4 es])] [] (fun r O=>r=.row 6∧O=[(6,.rowd 55 4 false rs.flatten)]):=by
 have hlr:(rs.map fun es=>[D.sl 4 es]).length=rs.length:=List.length_map ..
 have hget:∀ {i:Nat} {es:List (List D)},rs[i]?=some es→(rs.map fun es=>[D.sl 4 es])[i]?=some [D.sl 4 es]:=fun {i es} h=>by simp [h]
 refine qI Tryz.func143 E Tryz.ntmps143 zL fun c hL hQ hDD=>(qd (qb (zX E (zK (qd (qb ?_))))));refine zX E (zK (qd (qd (qb (zX E (zA E (qu E qcN E) (zX E (zK (qv (qac (rs.length) (fun k=>k≤rs.length) (fun k=>⟨[(0,.dat false 1 (rs.map fun es=>[D.sl 4 es])),(3,iv ((rs.take k).flatten.length:Int)),(9,.dat false 1 (rs.map fun es=>[D.sl 4 es])),(10,iv (rs.map fun es=>[D.sl 4 es]).length),(11,iv (k:Int))],[]⟩) zO ?_ (fun k hk hp=>?_)))))))))))
 ·exact zR hL (zC E (zC E (zC E (zC E (zC E SubT.nil))))) SubO.nil
 have hfl:=qfK rs k
 refine qd (qb (zA E (qj E E E E) (zK (qd (qo E (fun c0=>?_) (fun c0=>?_))))))
 ·simp only[↓cqA,cqB]at c0
  obtain ⟨es,hu⟩:=qM (l:=rs) (k:=k) (by omega)
  have hfs:=qf7 hu
  have hfl2:=qfK rs (k+1)
  have hfa:(rs.take (k+1)).flatten.length=(rs.take k).flatten.length+es.length:=by rw [hfs,List.length_append]
  refine qr (qa (qd (qv (qd (qb (zA E (qp E qcN E E zO (hget hu)) (zA E (qW E qfG E) ?_)))))));refine zX E (zK (qd (qb (zX E (zX E ?_)))))
  refine zA E (qu E qw E) (zA E (qO E E E zO) (zX E (zK (qd (qb (zX E ?_))))));refine zA E (qj E E E E) (zK (qo E (fun c1=>?_) (fun c1=>?_)))
  ·simp only[↓cqA,cqB]at c1
   omega
  simp only[↓cqA,cqB]at c1
  refine qr (qR (qa (qb (zA E (qO E E E zO) (zX E (zK ?_))))));refine ⟨?_,?_,?_⟩
  ·omega
  ·omega
  exact zR hL (zC E (SubT.cons (qaw E (by rw [hfa];exact qbx zO)) (zC E (zC E (zC E SubT.nil))))) SubO.nil
 simp only[↓cqA,cqB]at c0
 have hk1:rs.take k=rs:=List.take_of_length_le (by omega)
 rw [hk1]
 refine qV ?_;refine qq (qq (qad ?_));refine qa ?_;refine qd ?_;refine qb ?_;refine zX E ?_;refine qag (avs:=[_,_]) true E E E zD qd9 E E (qrr true rs.flatten.length hb) E (qbQ .nil) (by rintro r O' ⟨_,rfl⟩;exact frB E) (by rintro-r O' ⟨rfl,rfl⟩;exact ⟨rfl,rfl⟩) ?_
 rintro r O' ⟨rfl,rfl⟩
 refine qab (qdi hQ) (zX E (zK (qd (qd (qb (zX E ?_))))));refine zA E (qu E qcN E) (zX E (zK (qv (qac (rs.length) (fun k=>k≤rs.length) (fun k=>⟨[(6,.row 6),(25,.dat false 1 (rs.map fun es=>[D.sl 4 es])),(26,iv (rs.map fun es=>[D.sl 4 es]).length),(27,iv (k:Int))],[(6,.rowd 55 4 false (rs.take k).flatten)]⟩) zO ?_ (fun k hk hp=>?_)))))
 ·exact Sub.trans (qZ 7 6 (noL hL _) (noL hL _)) (qC (zC E (zC E (zC E (zC E SubT.nil)))) (SubO.cons (qU E (by rfl)) SubO.nil) E E (noL' (noL hL) _))
 refine qd (qb (zA E (qj E E E E) (zK (qd (qo E (fun c2=>?_) (fun c2=>?_))))))
 ·simp only[↓cqA,cqB]at c2
  obtain ⟨es,hu⟩:=qM (l:=rs) (k:=k) (by omega)
  have hes1:=hes es (List.mem_of_getElem? hu)
  have hfs:=qf7 hu
  have hfl2:=qfK rs (k+1)
  have hfa:(rs.take (k+1)).flatten.length=(rs.take k).flatten.length+es.length:=by rw [hfs,List.length_append]
  refine qr (qa (qd (qv (qd (qb (zA E (qp E qcN E E zO (hget hu)) (zA E (qW E qfG E) ?_)))))));refine zX E (zK (qb (zX E (zX E ?_))))
  refine qcG 33 qbL E E zD E E E (qmy hes1 E) E hes1 (noL hL _) E zO E (zX E (qc (qR (qa (qb (zA E (qO E E E zO) (zX E ?_)))))));refine zK ?_;refine ⟨?_,?_,?_⟩
  ·omega
  ·omega
  exact Sub.trans (qZ 33 6 (noL hL _) (noL hL _)) (qC (zC E (zC E (zC E (zC E SubT.nil)))) (SubO.cons (qU E (by rw [hfs];rfl)) SubO.nil) E E (noL' (noL hL) _))
 simp only[↓cqA,cqB]at c2
 refine qV (qq (qq (qad ?_)));refine qa (qd (qb (zX E (zX E (zK (qn ?_))))))
 change retQ _ _ _ _ _ _ _
 refine retO (O':=[(6,_)]) (.inl E) (qg E qh) (SubO.cons E SubO.nil) ?_ ?_ (noL' (noL hL) _) ?_
 ·rfl
 ·rfl
 exact ⟨rfl,by rw [List.take_of_length_le zO]⟩
theorem qmf {m:Bool}{P:Program}{α:Type}{f:FuncId}{args:List AV}{O:List (Nat×Ob)}{Z:α→Prop}{v:α→AV}{O1:α→List (Nat×Ob)}(a b:Nat)(h:ACx m P f args O (fun r O'=>∃ x,Z x∧r=v x∧O'=O1 x)):ACx m P f (AV.rns (swp a b) args) (rnO (swp a b) O) (fun r O'=>∃ x,Z x∧r=(v x).rn (swp a b)∧O'=rnO (swp a b) (O1 x)):=
 qnk (AC_rn a b h) fun r O' ⟨x,z,e1,e2⟩=>⟨x,z,by rw [← e1,qrO (qgn a b)],by rw [← e2,qjd (qgn a b)]⟩
def AmC (l:List Kp)(d:Nat):Prop:=∀ p:Pt,p.wf→patB d p=true→AC Tryz.prog 196 [.dat false 7 (kpDs l),ptA false p] [] (fun r O=>∃ X,((mAll d l p).2=true→X=(mAll d l p).1)∧r=.tup [.row 6,bv (mAll d l p).2]∧O=[(6,.rowd 55 4 false (mtDs X))])
theorem qrk (hl:qhK l)(hw:∀ k∈l,k.wf)(d:Nat)(p:Pt)(hp:p.wf)(hb:patB (d+1) p=true)(hk:p.kind=1):AC Tryz.prog 196 [.dat false 7 (kpDs l),ptA false p] [] (fun r O=>∃ X,((mAll (d+1) l p).2=true→X=(mAll (d+1) l p).1)∧r=.tup [.row 6,bv (mAll (d+1) l p).2]∧O=[(6,.rowd 55 4 false (mtDs X))]):=by
 have hm:=(qo2 hl hw (d+1) p hp hb).2 (by omega) hk
 obtain ⟨ht1,_⟩:=qiz hb hk
 rw [hm]
 refine qI Tryz.func196 E Tryz.ntmps196 zL fun c hL hQ hDD=>(qd (qb (qt E E zD (q6 3 E E E) E (zX E (zX E (zK ?_))))));refine qd (qd (qb (zA E (qe E qap E) (zA E (qi E qQ E E E E E) (zA E (qj E E E E) (zK (qo E (fun c0=>?_) (fun c0=>?_))))))))
 ·simp only[↓cqA,cqB]at c0
  refine qd (qb (zX E (zA E (qe E qa6 E) (zA E (qi E qz E E E E E) (qbW E E zD (qbn (avs:=[_,_]) false E qm1 E E (qnQ p.t ht1 hp.2.1 l hl hw) (fun _=>rfl) E) E (zX E (zX E (zK (qn (qm ?_))))))))))
  change retQ _ _ _ _ _ _ _
  refine retO (O':=[(6,_)]) (by first|exact .inl E|exact .inr E) (qg E (qg E qh)) (SubO.cons E SubO.nil) ?_ ?_ (noL' (noL hL) _) ?_
  ·rfl
  ·rfl
  exact ⟨_,fun _=>rfl,rfl,rfl⟩
 simp only[↓cqA,cqB]at c0
 omega
theorem qrl (hl:qhK l)(hw:∀ k∈l,k.wf)(d:Nat)(hd:d≤10)(p:Pt)(hp:p.wf)(hb:patB (d+1) p=true)(hk:p.kind≠1)(ih:AmC l d):AC Tryz.prog 196 [.dat false 7 (kpDs l),ptA false p] [] (fun r O=>∃ X,((mAll (d+1) l p).2=true→X=(mAll (d+1) l p).1)∧r=.tup [.row 6,bv (mAll (d+1) l p).2]∧O=[(6,.rowd 55 4 false (mtDs X))]):=by
 obtain ⟨hkr,hl1,hr1,hc5,hrel,hbl,hbr,hbc,hc1⟩:=qdV hb hk
 have hpl:=qds hp.2.2.2.1.2
 have hpr:=qds hp.2.2.2.2.1.2
 have hpc:=qds hp.2.2.2.2.2.2
 have hA:=qcs hl hw d (hdP p.l) hpl hbl
 have hB:=qcs hl hw d (hdP p.r) hpr hbr
 have hAl:=qfl hl hw d (hdP p.l) hpl hbl
 have hBl:=qfl hl hw d (hdP p.r) hpr hbr
 have hCC:∀ x∈(if p.kind=5 then (mAll d l (hdP p.c)).1 else []),MOk (2 ^ d) x:=fun x hx=>by
  split at hx
  ·rename_i h5;exact qcs hl hw d (hdP p.c) hpc (hbc h5) x hx
  ·cases hx
 have hCl:(p.kind=5→(mAll d l (hdP p.c)).2=true)→(if p.kind=5 then (mAll d l (hdP p.c)).1 else []).length≤1000:=fun hcc=>by
  split
  ·rename_i h;exact (qfl hl hw d (hdP p.c) hpc (hbc h)).resolve_right (by rw [hcc h];exact Bool.noConfusion)
  ·simp
 have h2d:2 ^ d≤1024:=Nat.le_trans (Nat.pow_le_pow_right (by decide) hd) (by decide)
 have hdl:=qaQ p.l
 have hdr:=qaQ p.r
 have hdc:=qaQ p.c
 have hbad:((mAll d l (hdP p.l)).2&&(mAll d l (hdP p.r)).2&&(p.kind != 5 || (mAll d l (hdP p.c)).2))=false→mAll (d+1) l p=([],false):=fun h=>by
  rw [mAll,if_neg hk,if_neg (by rw [h];exact Bool.noConfusion)]
 refine qI Tryz.func196 E Tryz.ntmps196 zL fun c hL hQ hDD=>(qd (qb (qt E E zD (q6 3 E E E) E (zX E (zX E (zK ?_))))));refine qd (qd (qb (zA E (qe E qap E) (zA E (qi E qQ E E E E E) (zA E (qj E E E E) (zK (qo E (fun c0=>?_) (fun c0=>?_))))))))
 ·simp only[↓cqA,cqB]at c0
  omega
 simp only[↓cqA,cqB]at c0
 refine qr (qa (qd (qb (zX E (zA E (qe E qaP E) (zA E (qi E qB E E E E E) (zA E (qp E qy E E zO (qba (qdO zO))) ?_)))))));refine zA E (qD E qL E E) ?_
 refine qag (avs:=[_,_]) false E E E zD qfc E E (qmf 6 86 (ih (hdP p.l) hpl hbl)) E (qbQ .nil) (by rintro r O' ⟨X,_,_,rfl⟩;exact frB E) (by rintro h;cases h) ?_
 rintro r O' ⟨XA,hXA,rfl,rfl⟩
 refine zX E (qab (qaG (l:=86) E zD (noL hL _) E E) (zA E (qS E E E) (zA E (qS E E E) (zX E ?_))))
 refine zX E (zK (qd (qd (qb (zX E (zA E (qaB E E) ?_))))));refine zK (qo E (fun c1=>?_) (fun c1=>?_))
 ·simp only[↓cqA,cqB]at c1
  refine qd (qb (zX E (zX E (zK (qn (qm ?_))))))
  change retQ _ _ _ _ _ _ _
  first
   | (have hm:mAll (d+1) l p=([],false):=by
       first
        | exact hbad (by rw [show (mAll d l (hdP p.l)).2=false by assumption];rfl)
        | exact hbad (by rw [show (mAll d l (hdP p.r)).2=false by assumption,Bool.and_false];rfl)
        | exact hbad (by rw [show (mAll d l (hdP p.c)).2=false by assumption,show p.kind=5 by assumption];simp)
      rw [hm]
      refine retS (qam (t:=4) (l:=6) 55 4 false E E) (retO (O':=[(6,_)]) (by first|exact .inl E|exact .inr E) (qg E (qg E qh)) (SubO.cons E SubO.nil) ?_ ?_ (noL' (noL hL) _) ?_)
      ·rfl
      ·rfl
      exact ⟨[],fun h=>(by cases h),rfl,rfl⟩)
   | (rw [hor]
      refine retS (qZ 0 6 (noL hL _) (noL hL _)) (retO (O':=[(6,_)]) (by first|exact .inl E|exact .inr E) (qg E (qg E qh)) (SubO.cons E SubO.nil) ?_ ?_ (noL' (noL hL) _) ?_)
      ·rfl
      ·rfl
      refine ⟨_,fun _=>rfl,?_,rfl⟩
      show AV.tup [.row 6,_]=_
      congr 2
      refine congrArg (fun x=>[x]) (qbs ?_)
      rw [hlo,Bool.eq_iff_iff,decide_eq_true_eq,decide_eq_true_eq]
      omega)
   | (refine retS (qZ 89 6 (noL hL _) (noL hL _)) (retO (O':=[(6,_)]) (by first|exact .inl E|exact .inr E) (qg E (qg E qh)) (SubO.cons E SubO.nil) ?_ ?_ (noL' (noL hL) _) ?_)
      ·rfl
      ·rfl
      exact ⟨_,hXP,rfl,rfl⟩)
   | trace_state
 simp only[↓cqA,cqB]at c1
 have hAt:(mAll d l (hdP p.l)).2=true:=by first|assumption|simpa using c1
 have hA1:(mAll d l (hdP p.l)).1.length≤1000:=hAl.resolve_right (by rw [hAt];exact Bool.noConfusion)
 obtain rfl:=hXA hAt
 refine qr (qa (qd (qb (zX E (zA E (qe E qaO E) (zA E (qi E qB E E E E E) (zA E (qp E qy E E zO (qba (qdO zO))) ?_)))))));refine zA E (qD E qL E E) ?_
 refine qag (avs:=[_,_]) false E E E zD qfc E E (qmf 6 87 (ih (hdP p.r) hpr hbr)) E (qbQ .nil) (by rintro r O' ⟨X,_,_,rfl⟩;exact frB E) (by rintro h;cases h) ?_
 rintro r O' ⟨XB,hXB,rfl,rfl⟩
 refine zX E (qab (qaG (l:=87) E zD (noL hL _) E E) (zA E (qS E E E) (zA E (qS E E E) (zX E ?_))))
 refine zX E (zK (qd (qd (qb (zX E (zA E (qaB E E) ?_))))));refine zK (qo E (fun c2=>?_) (fun c2=>?_))
 ·simp only[↓cqA,cqB]at c2
  refine qd (qb (zX E (zX E (zK (qn (qm ?_))))))
  change retQ _ _ _ _ _ _ _
  first
   | (have hm:mAll (d+1) l p=([],false):=by
       first
        | exact hbad (by rw [show (mAll d l (hdP p.l)).2=false by assumption];rfl)
        | exact hbad (by rw [show (mAll d l (hdP p.r)).2=false by assumption,Bool.and_false];rfl)
        | exact hbad (by rw [show (mAll d l (hdP p.c)).2=false by assumption,show p.kind=5 by assumption];simp)
      rw [hm]
      refine retS (qam (t:=4) (l:=6) 55 4 false E E) (retO (O':=[(6,_)]) (by first|exact .inl E|exact .inr E) (qg E (qg E qh)) (SubO.cons E SubO.nil) ?_ ?_ (noL' (noL hL) _) ?_)
      ·rfl
      ·rfl
      exact ⟨[],fun h=>(by cases h),rfl,rfl⟩)
   | (rw [hor]
      refine retS (qZ 0 6 (noL hL _) (noL hL _)) (retO (O':=[(6,_)]) (by first|exact .inl E|exact .inr E) (qg E (qg E qh)) (SubO.cons E SubO.nil) ?_ ?_ (noL' (noL hL) _) ?_)
      ·rfl
      ·rfl
      refine ⟨_,fun _=>rfl,?_,rfl⟩
      show AV.tup [.row 6,_]=_
      congr 2
      refine congrArg (fun x=>[x]) (qbs ?_)
      rw [hlo,Bool.eq_iff_iff,decide_eq_true_eq,decide_eq_true_eq]
      omega)
   | (refine retS (qZ 89 6 (noL hL _) (noL hL _)) (retO (O':=[(6,_)]) (by first|exact .inl E|exact .inr E) (qg E (qg E qh)) (SubO.cons E SubO.nil) ?_ ?_ (noL' (noL hL) _) ?_)
      ·rfl
      ·rfl
      exact ⟨_,hXP,rfl,rfl⟩)
   | trace_state
 simp only[↓cqA,cqB]at c2
 have hBt:(mAll d l (hdP p.r)).2=true:=by first|assumption|simpa using c2
 have hB1:(mAll d l (hdP p.r)).1.length≤1000:=hBl.resolve_right (by rw [hBt];exact Bool.noConfusion)
 obtain rfl:=hXB hBt
 refine qr (qa (qd (qb (zX E (zK (qd ?_))))));refine qd (qb (zA E (qe E qap E) (zA E (qi E qQ E E E E E) (zA E (qj E E E E) (zK (qo E (fun c3=>?_) (fun c3=>?_)))))))
 ·simp only[↓cqA,cqB]at c3
  refine qd ?_;refine qb ?_;refine zX E ?_;refine zA E (qe E qaD E) ?_;refine zA E (qi E qB E E E E E) ?_;refine zA E (qp E qy E E zO (qba (qdO (by have:=hc5.1 (by assumption);omega)))) ?_;refine zA E (qD E qL E E) ?_
  refine qag (avs:=[_,_]) false E E E zD qfc E E (qmf 6 88 (ih (hdP p.c) hpc (hbc (by assumption)))) E (qbQ .nil) (by rintro r O' ⟨X,_,_,rfl⟩;exact frB E) (by rintro h;cases h) ?_
  rintro r O' ⟨XC,hXC,rfl,rfl⟩
  refine zX E (qab (qaG (l:=88) E zD (noL hL _) E E) (zA E (qS E E E) (zA E (qS E E E) (zX E ?_))))
  refine zX E (zK (qd (qb (zX E (zA E (qaB E E) (qc ?_))))));refine qa (qo E (fun c4=>?_) (fun c4=>?_))
  ·simp only[↓cqA,cqB]at c4
   refine qd (qb (zX E (zX E (zK (qn (qm ?_))))))
   change retQ _ _ _ _ _ _ _
   first
    | (have hm:mAll (d+1) l p=([],false):=by
        first
         | exact hbad (by rw [show (mAll d l (hdP p.l)).2=false by assumption];rfl)
         | exact hbad (by rw [show (mAll d l (hdP p.r)).2=false by assumption,Bool.and_false];rfl)
         | exact hbad (by rw [show (mAll d l (hdP p.c)).2=false by assumption,show p.kind=5 by assumption];simp)
       rw [hm]
       refine retS (qam (t:=4) (l:=6) 55 4 false E E) (retO (O':=[(6,_)]) (by first|exact .inl E|exact .inr E) (qg E (qg E qh)) (SubO.cons E SubO.nil) ?_ ?_ (noL' (noL hL) _) ?_)
       ·rfl
       ·rfl
       exact ⟨[],fun h=>(by cases h),rfl,rfl⟩)
    | (rw [hor]
       refine retS (qZ 0 6 (noL hL _) (noL hL _)) (retO (O':=[(6,_)]) (by first|exact .inl E|exact .inr E) (qg E (qg E qh)) (SubO.cons E SubO.nil) ?_ ?_ (noL' (noL hL) _) ?_)
       ·rfl
       ·rfl
       refine ⟨_,fun _=>rfl,?_,rfl⟩
       show AV.tup [.row 6,_]=_
       congr 2
       refine congrArg (fun x=>[x]) (qbs ?_)
       rw [hlo,Bool.eq_iff_iff,decide_eq_true_eq,decide_eq_true_eq]
       omega)
    | (refine retS (qZ 89 6 (noL hL _) (noL hL _)) (retO (O':=[(6,_)]) (by first|exact .inl E|exact .inr E) (qg E (qg E qh)) (SubO.cons E SubO.nil) ?_ ?_ (noL' (noL hL) _) ?_)
       ·rfl
       ·rfl
       exact ⟨_,hXP,rfl,rfl⟩)
    | trace_state
  simp only[↓cqA,cqB]at c4
  have h5:p.kind=5:=by assumption
  have hCt:(mAll d l (hdP p.c)).2=true:=by first|assumption|simpa using c4
  have hC1:=(qfl hl hw d (hdP p.c) hpc (hbc h5)).resolve_right (by rw [hCt];exact Bool.noConfusion)
  have hCm:=qcs hl hw d (hdP p.c) hpc (hbc h5)
  obtain rfl:=hXC hCt
  refine qr (qa (qd (qd (qb (zA E (qe E qap E) (zA E (qi E qQ E E E E E) (zA E (qj E E E E) ?_)))))));refine zK (qo E (fun c5=>?_) (fun c5=>?_))
  ·simp only[↓cqA,cqB]at c5
   have hor:=qsc hl hw hp hb (by assumption) hAt hBt
   have hfl:([mtDs (mAll d l (hdP p.l)).1,mtDs (mAll d l (hdP p.r)).1]:List (List (List D))).flatten=mtDs ((mAll d l (hdP p.l)).1++(mAll d l (hdP p.r)).1):=by simp [mtDs]
   have hab:((mAll d l (hdP p.l)).1++(mAll d l (hdP p.r)).1).length=(mAll d l (hdP p.l)).1.length+(mAll d l (hdP p.r)).1.length:=List.length_append
   have hao:∀ m∈(mAll d l (hdP p.l)).1++(mAll d l (hdP p.r)).1,MOk (2 ^ d) m:=fun m hm=>by
    rcases List.mem_append.1 hm with h|h
    ·exact hA m h
    ·exact hB m h
   have hcat:=qjG [mtDs (mAll d l (hdP p.l)).1,mtDs (mAll d l (hdP p.r)).1] (fun es he d hd=>by
    simp only [List.mem_cons,List.not_mem_nil,or_false] at he
    rcases he with rfl|rfl
    ·exact qiI _ d hd
    ·exact qiI _ d hd) (by rw [hfl,qah];omega) (by simp)
   rw [hfl] at hcat
   generalize hAB:(mAll d l (hdP p.l)).1++(mAll d l (hdP p.r)).1=L at*
   have hlo:=qah (qcb L)
   refine qd (qb (zX E (zX E (zA E (qbk false E qcN qhS E E zD zD zD E E E E) (qbW E E zD (qbn (avs:=[_]) false E qcw E E (qc0 6 0 hcat) (fun _=>rfl) E) E (qeo ⟨[(61,.row 0),(3,.ptr 3 0)],(0,.rowd 55 4 false (mtDs (qcb (L))))::[(3,.box (lift false (ptD p)))]⟩ (fun Q2 K=>?_) ?_))))))
   ·have hqO:=fun cap h1 h2=>qhq (L) (by omega) cap h1 h2 (n:=2 ^ d) (by omega) hao
    generalize hLL:(L)=LL at*
    refine qab (qC (T1:=[(60,.row 0),(3,.ptr 3 0)]) (O1:=(0,.rowd 55 4 false (mtDs LL))::[(3,.box (lift false (ptD p)))]) (zB E (zB E SubT.nil)) (SubO.cons E (SubO.cons E SubO.nil)) E E (noL' (noL hL) _)) ?_
    have h9:=qah LL
    refine qdG (l:=0) E zD (noL hL _) (fun he=>?_) (fun cap h1 h2=>?_)
    ·have hl0:LL=[]:=by
      rw [he] at h9;exact List.eq_nil_of_length_eq_zero h9.symm
     have hn0:qcb LL=[]:=by rw [hl0];rfl
     rw [hn0] at K
     refine qag (avs:=[_]) false E E E zD qcx E E qgi E (qbQ .nil) (by rintro r O' ⟨_,rfl⟩;exact frB E) (by rintro h;cases h) ?_
     rintro r O' ⟨rfl,rfl⟩
     exact qab (Sub.trans (qam (t:=61) (l:=9) 55 4 false E E) (Sub.trans (qC (T1:=[(61,.row 9),(3,.ptr 3 0)]) (O1:=(9,.rowd 55 4 false [])::[(3,.box (lift false (ptD p)))]) (zB E (zB E SubT.nil)) (SubO.cons E (SubO.cons E SubO.nil)) E E (noL' (noL hL) _)) (Sub.trans (qZ 9 0 (noL hL _) (noL hL _)) (qC (zB E (zB E SubT.nil)) (SubO.cons E (SubO.cons E SubO.nil)) E E (noL' (noL hL) _))))) K
    ·rw [h9] at h1 ⊢
     refine qag (avs:=[_]) false E E E zD qcx E E (hqO cap h1 h2) E (qbQ (.cons E trivial E .nil)) (by rintro r O' ⟨A',_,_,_,rfl⟩;exact frB E) (by rintro h;cases h) ?_
     rintro r O' ⟨A',hA1,hA2,rfl,rfl⟩
     have hgl:=qah (qcb LL)
     exact qab (Sub.trans (qbm (l:=0) (cap:=cap) (n:=(qcb LL).length) (mtDs (qcb LL)) E (noL hL _) ⟨_,qgh hA2⟩ hgl.symm hA1.symm) (qC (SubT.cons (qaw E (by simp [AV.rp,clV])) (zB rfl SubT.nil)) (SubO.cons rfl (SubO.cons rfl SubO.nil)) rfl rfl (noL' (noL hL) _))) K
   refine zX E (zK (qd (qb (zX E (zX E (zA E (qbf E qw E E) (zA E (qj E E E E) (zX E (zX E (zK (qn (qm ?_))))))))))))
   change retQ _ _ _ _ _ _ _
   first
    | (have hm:mAll (d+1) l p=([],false):=by
        first
         | exact hbad (by rw [show (mAll d l (hdP p.l)).2=false by assumption];rfl)
         | exact hbad (by rw [show (mAll d l (hdP p.r)).2=false by assumption,Bool.and_false];rfl)
         | exact hbad (by rw [show (mAll d l (hdP p.c)).2=false by assumption,show p.kind=5 by assumption];simp)
       rw [hm]
       refine retS (qam (t:=4) (l:=6) 55 4 false E E) (retO (O':=[(6,_)]) (by first|exact .inl E|exact .inr E) (qg E (qg E qh)) (SubO.cons E SubO.nil) ?_ ?_ (noL' (noL hL) _) ?_)
       ·rfl
       ·rfl
       exact ⟨[],fun h=>(by cases h),rfl,rfl⟩)
    | (rw [hor]
       refine retS (qZ 0 6 (noL hL _) (noL hL _)) (retO (O':=[(6,_)]) (by first|exact .inl E|exact .inr E) (qg E (qg E qh)) (SubO.cons E SubO.nil) ?_ ?_ (noL' (noL hL) _) ?_)
       ·rfl
       ·rfl
       refine ⟨_,fun _=>rfl,?_,rfl⟩
       show AV.tup [.row 6,_]=_
       congr 2
       refine congrArg (fun x=>[x]) (qbs ?_)
       rw [hlo,Bool.eq_iff_iff,decide_eq_true_eq,decide_eq_true_eq]
       omega)
    | (refine retS (qZ 89 6 (noL hL _) (noL hL _)) (retO (O':=[(6,_)]) (by first|exact .inl E|exact .inr E) (qg E (qg E qh)) (SubO.cons E SubO.nil) ?_ ?_ (noL' (noL hL) _) ?_)
       ·rfl
       ·rfl
       exact ⟨_,hXP,rfl,rfl⟩)
    | trace_state
  simp only[↓cqA,cqB]at c5
  have hcc:p.kind=5→(mAll d l (hdP p.c)).2=true:=fun h5=>by first|assumption|exact absurd h5 (by assumption)
  have hg:=qnV hl hw hp hb hk (by assumption) hAt hBt hcc
  have hcl:∃ cl:List Mt,(if p.kind=5 then (mAll d l (hdP p.c)).1 else [])=cl∧(∀ x∈cl,MOk (2 ^ d) x)∧cl.length≤1000:=⟨_,rfl,hCC,hCl hcc⟩
  obtain ⟨cl,hcl1,hcl2,hcl3⟩:=hcl
  have hpair:=qqG p.kind p.rel (n:=2 ^ d) (k:=2 ^ d) (by omega) (by omega) (mAll d l (hdP p.l)).1 (mAll d l (hdP p.r)).1 hA hB hA1 hB1 cl hcl2 (by omega) hrel
  rw [hcl1] at hg
  rw [← hg,← hcl1] at hpair
  first|rw [if_pos (show p.kind=5 by assumption)] at hpair|rw [if_neg (show ¬ p.kind=5 by assumption)] at hpair
  refine qr (qa (qd (qb (zA E (qe E qap E) (zA E (qi E qQ E E E E E) (zA E (qe E qaT E) (zA E (qi E qQ E E E E E) ?_)))))))
  refine zX E ?_;refine zX E ?_;refine zX E ?_;refine qag (avs:=[_,_,_,_,_]) false E E E zD qiU E E (qmf 6 89 hpair) E (qbQ .nil) (by rintro r O' ⟨X,_,_,rfl⟩;exact frB E) (by rintro h;cases h) ?_
  rintro r O' ⟨XP,hXP,rfl,rfl⟩
  refine zA E (qS E E E) (zA E (qS E E E) (zX E (zX E (zK (qn ?_)))))
  change retQ _ _ _ _ _ _ _
  first
   | (have hm:mAll (d+1) l p=([],false):=by
       first
        | exact hbad (by rw [show (mAll d l (hdP p.l)).2=false by assumption];rfl)
        | exact hbad (by rw [show (mAll d l (hdP p.r)).2=false by assumption,Bool.and_false];rfl)
        | exact hbad (by rw [show (mAll d l (hdP p.c)).2=false by assumption,show p.kind=5 by assumption];simp)
      rw [hm]
      refine retS (qam (t:=4) (l:=6) 55 4 false E E) (retO (O':=[(6,_)]) (by first|exact .inl E|exact .inr E) (qg E (qg E qh)) (SubO.cons E SubO.nil) ?_ ?_ (noL' (noL hL) _) ?_)
      ·rfl
      ·rfl
      exact ⟨[],fun h=>(by cases h),rfl,rfl⟩)
   | (rw [hor]
      refine retS (qZ 0 6 (noL hL _) (noL hL _)) (retO (O':=[(6,_)]) (by first|exact .inl E|exact .inr E) (qg E (qg E qh)) (SubO.cons E SubO.nil) ?_ ?_ (noL' (noL hL) _) ?_)
      ·rfl
      ·rfl
      refine ⟨_,fun _=>rfl,?_,rfl⟩
      show AV.tup [.row 6,_]=_
      congr 2
      refine congrArg (fun x=>[x]) (qbs ?_)
      rw [hlo,Bool.eq_iff_iff,decide_eq_true_eq,decide_eq_true_eq]
      omega)
   | (refine retS (qZ 89 6 (noL hL _) (noL hL _)) (retO (O':=[(6,_)]) (by first|exact .inl E|exact .inr E) (qg E (qg E qh)) (SubO.cons E SubO.nil) ?_ ?_ (noL' (noL hL) _) ?_)
      ·rfl
      ·rfl
      exact ⟨_,hXP,rfl,rfl⟩)
   | trace_state
 simp only[↓cqA,cqB]at c3
 refine qbI (qdx (t:=9) 4 false E) (qr (qa (qd (qd (qb (zA E (qe E qap E) (zA E (qi E qQ E E E E E) ?_)))))));refine zA E (qj E E E E) (zK (qo E (fun c5=>?_) (fun c5=>?_)))
 ·simp only[↓cqA,cqB]at c5
  have hor:=qsc hl hw hp hb (by assumption) hAt hBt
  have hfl:([mtDs (mAll d l (hdP p.l)).1,mtDs (mAll d l (hdP p.r)).1]:List (List (List D))).flatten=mtDs ((mAll d l (hdP p.l)).1++(mAll d l (hdP p.r)).1):=by simp [mtDs]
  have hab:((mAll d l (hdP p.l)).1++(mAll d l (hdP p.r)).1).length=(mAll d l (hdP p.l)).1.length+(mAll d l (hdP p.r)).1.length:=List.length_append
  have hao:∀ m∈(mAll d l (hdP p.l)).1++(mAll d l (hdP p.r)).1,MOk (2 ^ d) m:=fun m hm=>by
   rcases List.mem_append.1 hm with h|h
   ·exact hA m h
   ·exact hB m h
  have hcat:=qjG [mtDs (mAll d l (hdP p.l)).1,mtDs (mAll d l (hdP p.r)).1] (fun es he d hd=>by
   simp only [List.mem_cons,List.not_mem_nil,or_false] at he
   rcases he with rfl|rfl
   ·exact qiI _ d hd
   ·exact qiI _ d hd) (by rw [hfl,qah];omega) (by simp)
  rw [hfl] at hcat
  generalize hAB:(mAll d l (hdP p.l)).1++(mAll d l (hdP p.r)).1=L at*
  have hlo:=qah (qcb L)
  refine qd (qb (zX E (zX E (zA E (qbk false E qcN qhS E E zD zD zD E E E E) (qbW E E zD (qbn (avs:=[_]) false E qcw E E (qc0 6 0 hcat) (fun _=>rfl) E) E (qeo ⟨[(61,.row 0),(3,.ptr 3 0)],(0,.rowd 55 4 false (mtDs (qcb (L))))::[(3,.box (lift false (ptD p)))]⟩ (fun Q2 K=>?_) ?_))))))
  ·have hqO:=fun cap h1 h2=>qhq (L) (by omega) cap h1 h2 (n:=2 ^ d) (by omega) hao
   generalize hLL:(L)=LL at*
   refine qab (qC (T1:=[(60,.row 0),(3,.ptr 3 0)]) (O1:=(0,.rowd 55 4 false (mtDs LL))::[(3,.box (lift false (ptD p)))]) (zB E (zB E SubT.nil)) (SubO.cons E (SubO.cons E SubO.nil)) E E (noL' (noL hL) _)) ?_
   have h9:=qah LL
   refine qdG (l:=0) E zD (noL hL _) (fun he=>?_) (fun cap h1 h2=>?_)
   ·have hl0:LL=[]:=by
     rw [he] at h9;exact List.eq_nil_of_length_eq_zero h9.symm
    have hn0:qcb LL=[]:=by rw [hl0];rfl
    rw [hn0] at K
    refine qag (avs:=[_]) false E E E zD qcx E E qgi E (qbQ .nil) (by rintro r O' ⟨_,rfl⟩;exact frB E) (by rintro h;cases h) ?_
    rintro r O' ⟨rfl,rfl⟩
    exact qab (Sub.trans (qam (t:=61) (l:=9) 55 4 false E E) (Sub.trans (qC (T1:=[(61,.row 9),(3,.ptr 3 0)]) (O1:=(9,.rowd 55 4 false [])::[(3,.box (lift false (ptD p)))]) (zB E (zB E SubT.nil)) (SubO.cons E (SubO.cons E SubO.nil)) E E (noL' (noL hL) _)) (Sub.trans (qZ 9 0 (noL hL _) (noL hL _)) (qC (zB E (zB E SubT.nil)) (SubO.cons E (SubO.cons E SubO.nil)) E E (noL' (noL hL) _))))) K
   ·rw [h9] at h1 ⊢
    refine qag (avs:=[_]) false E E E zD qcx E E (hqO cap h1 h2) E (qbQ (.cons E trivial E .nil)) (by rintro r O' ⟨A',_,_,_,rfl⟩;exact frB E) (by rintro h;cases h) ?_
    rintro r O' ⟨A',hA1,hA2,rfl,rfl⟩
    have hgl:=qah (qcb LL)
    exact qab (Sub.trans (qbm (l:=0) (cap:=cap) (n:=(qcb LL).length) (mtDs (qcb LL)) E (noL hL _) ⟨_,qgh hA2⟩ hgl.symm hA1.symm) (qC (SubT.cons (qaw E (by simp [AV.rp,clV])) (zB rfl SubT.nil)) (SubO.cons rfl (SubO.cons rfl SubO.nil)) rfl rfl (noL' (noL hL) _))) K
  refine zX E (zK (qd (qb (zX E (zX E (zA E (qbf E qw E E) (zA E (qj E E E E) (zX E (zX E (zK (qn (qm ?_))))))))))))
  change retQ _ _ _ _ _ _ _
  first
   | (have hm:mAll (d+1) l p=([],false):=by
       first
        | exact hbad (by rw [show (mAll d l (hdP p.l)).2=false by assumption];rfl)
        | exact hbad (by rw [show (mAll d l (hdP p.r)).2=false by assumption,Bool.and_false];rfl)
        | exact hbad (by rw [show (mAll d l (hdP p.c)).2=false by assumption,show p.kind=5 by assumption];simp)
      rw [hm]
      refine retS (qam (t:=4) (l:=6) 55 4 false E E) (retO (O':=[(6,_)]) (by first|exact .inl E|exact .inr E) (qg E (qg E qh)) (SubO.cons E SubO.nil) ?_ ?_ (noL' (noL hL) _) ?_)
      ·rfl
      ·rfl
      exact ⟨[],fun h=>(by cases h),rfl,rfl⟩)
   | (rw [hor]
      refine retS (qZ 0 6 (noL hL _) (noL hL _)) (retO (O':=[(6,_)]) (by first|exact .inl E|exact .inr E) (qg E (qg E qh)) (SubO.cons E SubO.nil) ?_ ?_ (noL' (noL hL) _) ?_)
      ·rfl
      ·rfl
      refine ⟨_,fun _=>rfl,?_,rfl⟩
      show AV.tup [.row 6,_]=_
      congr 2
      refine congrArg (fun x=>[x]) (qbs ?_)
      rw [hlo,Bool.eq_iff_iff,decide_eq_true_eq,decide_eq_true_eq]
      omega)
   | (refine retS (qZ 89 6 (noL hL _) (noL hL _)) (retO (O':=[(6,_)]) (by first|exact .inl E|exact .inr E) (qg E (qg E qh)) (SubO.cons E SubO.nil) ?_ ?_ (noL' (noL hL) _) ?_)
      ·rfl
      ·rfl
      exact ⟨_,hXP,rfl,rfl⟩)
   | trace_state
 simp only[↓cqA,cqB]at c5
 have hcc:p.kind=5→(mAll d l (hdP p.c)).2=true:=fun h5=>by first|assumption|exact absurd h5 (by assumption)
 have hg:=qnV hl hw hp hb hk (by assumption) hAt hBt hcc
 have hcl:∃ cl:List Mt,(if p.kind=5 then (mAll d l (hdP p.c)).1 else [])=cl∧(∀ x∈cl,MOk (2 ^ d) x)∧cl.length≤1000:=⟨_,rfl,hCC,hCl hcc⟩
 obtain ⟨cl,hcl1,hcl2,hcl3⟩:=hcl
 have hpair:=qqG p.kind p.rel (n:=2 ^ d) (k:=2 ^ d) (by omega) (by omega) (mAll d l (hdP p.l)).1 (mAll d l (hdP p.r)).1 hA hB hA1 hB1 cl hcl2 (by omega) hrel
 rw [hcl1] at hg
 rw [← hg,← hcl1] at hpair
 first|rw [if_pos (show p.kind=5 by assumption)] at hpair|rw [if_neg (show ¬ p.kind=5 by assumption)] at hpair
 refine qr (qa (qd (qb (zA E (qe E qap E) (zA E (qi E qQ E E E E E) (zA E (qe E qaT E) (zA E (qi E qQ E E E E E) ?_)))))))
 refine zX E ?_;refine zX E ?_;refine zX E ?_;refine qag (avs:=[_,_,_,_,_]) false E E E zD qiU E E (qmf 6 89 hpair) E (qbQ .nil) (by rintro r O' ⟨X,_,_,rfl⟩;exact frB E) (by rintro h;cases h) ?_
 rintro r O' ⟨XP,hXP,rfl,rfl⟩
 refine zA E (qS E E E) (zA E (qS E E E) (zX E (zX E (zK (qn ?_)))))
 change retQ _ _ _ _ _ _ _
 first
  | (have hm:mAll (d+1) l p=([],false):=by
      first
       | exact hbad (by rw [show (mAll d l (hdP p.l)).2=false by assumption];rfl)
       | exact hbad (by rw [show (mAll d l (hdP p.r)).2=false by assumption,Bool.and_false];rfl)
       | exact hbad (by rw [show (mAll d l (hdP p.c)).2=false by assumption,show p.kind=5 by assumption];simp)
     rw [hm]
     refine retS (qam (t:=4) (l:=6) 55 4 false E E) (retO (O':=[(6,_)]) (by first|exact .inl E|exact .inr E) (qg E (qg E qh)) (SubO.cons E SubO.nil) ?_ ?_ (noL' (noL hL) _) ?_)
     ·rfl
     ·rfl
     exact ⟨[],fun h=>(by cases h),rfl,rfl⟩)
  | (rw [hor]
     refine retS (qZ 0 6 (noL hL _) (noL hL _)) (retO (O':=[(6,_)]) (by first|exact .inl E|exact .inr E) (qg E (qg E qh)) (SubO.cons E SubO.nil) ?_ ?_ (noL' (noL hL) _) ?_)
     ·rfl
     ·rfl
     refine ⟨_,fun _=>rfl,?_,rfl⟩
     show AV.tup [.row 6,_]=_
     congr 2
     refine congrArg (fun x=>[x]) (qbs ?_)
     rw [hlo,Bool.eq_iff_iff,decide_eq_true_eq,decide_eq_true_eq]
     omega)
  | (refine retS (qZ 89 6 (noL hL _) (noL hL _)) (retO (O':=[(6,_)]) (by first|exact .inl E|exact .inr E) (qg E (qg E qh)) (SubO.cons E SubO.nil) ?_ ?_ (noL' (noL hL) _) ?_)
     ·rfl
     ·rfl
     exact ⟨_,hXP,rfl,rfl⟩)
  | trace_state
theorem qjx {l:List Kp}(hl:qhK l)(hw:∀ k∈l,k.wf):∀ d:Nat,d≤10→AmC l d
 | 0,_=>fun p _ h=>by rw [patB] at h;cases h
 | d+1,hd=>fun p hp hb=>by
   by_cases hk:p.kind=1
   ·exact qrk hl hw d p hp hb hk
   ·exact qrl hl hw d (by omega) p hp hb hk (qjx hl hw d (by omega))
theorem qq1 (l:List Kp)(hw:∀ k∈l,k.wf)(p:Pt)(hp:p.wf):AC Tryz.prog 128 [.dat false 7 (kpDs l),ptA false p] [] (fun r O=>∃ X,X=(if (qcA l&&okP p)=true then (if (mAll 8 l p).2=true then (mAll 8 l p).1 else []) else [])∧r=.tup [.row 6,iv (if (qcA l&&okP p)=true then (if (mAll 8 l p).2=true then 0 else 2) else 1)]∧O=[(6,.rowd 55 4 true (mtDs X))]):=by
 refine qI Tryz.func128 E Tryz.ntmps128 zL fun c hL hQ hDD=>(qd (qb (qt E E zD (q6 3 E E E) E (zX E (zX E (zK (qd (qd (qb (zX E (qH (avs:=[_]) true E E E zD qm2 E E (List_ok l hw) E E (zA E (qaB E E) (zX E (qE 11 E (fun g11=>?_) (fun g11=>?_)))))))))))))))
 ·simp only[↓cqA,cqB]at g11
  refine zY E (zY E (zY E (zA E (qk E E E) (zK (qa2 E (qd ?_))))));refine qb (zX E (zX E (zK (qn (qm ?_)))))
  change retQ _ _ _ _ _ _ _
  first
   | (rw [if_neg (show ¬ (qcA l&&okP p)=true by simp_all),if_neg (show ¬ (qcA l&&okP p)=true by simp_all)]
      refine retS (qam (t:=4) (l:=6) 55 4 true E E) (retO (O':=[(6,_)]) (by first|exact .inl E|exact .inr E) (qg E (qg E qh)) (SubO.cons E SubO.nil) ?_ ?_ (noL' (noL hL) _) ?_)
      ·rfl
      ·rfl
      exact ⟨[],rfl,rfl,rfl⟩)
   | (refine retO (O':=[(6,.rowd 55 4 true (mtDs (mAll 8 l p).1))]) (by first|exact .inl E|exact .inr E) (qg E (qg E qh)) (SubO.cons E SubO.nil) ?_ ?_ (noL' (noL hL) _) ?_
      ·rfl
      ·rfl
      exact ⟨_,rfl,rfl,rfl⟩)
   | (refine retS (qam (t:=4) (l:=6) 55 4 true E E) (retO (O':=[(6,_)]) (by first|exact .inl E|exact .inr E) (qg E (qg E qh)) (SubO.cons E SubO.nil) ?_ ?_ (noL' (noL hL) _) ?_)
      ·rfl
      ·rfl
      exact ⟨[],rfl,rfl,rfl⟩)
   | trace_state
 simp only[↓cqA,cqB]at g11
 refine zZ E (qF E qL E E E E) (zZ E (qai (avs:=[_]) true E qrd E E (qrL p hp) (fun _=>rfl) E) (zZ E (qaB E E) (zA E (qk E E E) (zK (qo E (fun c0=>?_) (fun c0=>?_))))))
 ·simp only[↓cqA,cqB]at c0
  refine qd (qb (zX E (zX E (zK (qn (qm ?_))))))
  change retQ _ _ _ _ _ _ _
  first
   | (rw [if_neg (show ¬ (qcA l&&okP p)=true by simp_all),if_neg (show ¬ (qcA l&&okP p)=true by simp_all)]
      refine retS (qam (t:=4) (l:=6) 55 4 true E E) (retO (O':=[(6,_)]) (by first|exact .inl E|exact .inr E) (qg E (qg E qh)) (SubO.cons E SubO.nil) ?_ ?_ (noL' (noL hL) _) ?_)
      ·rfl
      ·rfl
      exact ⟨[],rfl,rfl,rfl⟩)
   | (refine retO (O':=[(6,.rowd 55 4 true (mtDs (mAll 8 l p).1))]) (by first|exact .inl E|exact .inr E) (qg E (qg E qh)) (SubO.cons E SubO.nil) ?_ ?_ (noL' (noL hL) _) ?_
      ·rfl
      ·rfl
      exact ⟨_,rfl,rfl,rfl⟩)
   | (refine retS (qam (t:=4) (l:=6) 55 4 true E E) (retO (O':=[(6,_)]) (by first|exact .inl E|exact .inr E) (qg E (qg E qh)) (SubO.cons E SubO.nil) ?_ ?_ (noL' (noL hL) _) ?_)
      ·rfl
      ·rfl
      exact ⟨[],rfl,rfl,rfl⟩)
   | trace_state
 simp only[↓cqA,cqB]at c0
 have hl:qcA l=true:=by first|assumption|simp_all
 have hlk:=qhd hl
 have hok:okP p=true:=by first|assumption|simp_all
 have hpat:=((qh9 p).1 hok).1
 have hM:=qcs hlk hw 8 p hp hpat
 have hMl:=qfl hlk hw 8 p hp hpat
 have hif:(qcA l&&okP p)=true:=by rw [hl,hok];rfl
 rw [if_pos hif,if_pos hif]
 refine qr ?_;refine qa ?_;refine qd ?_;refine qb ?_;refine zX E ?_;refine zA E (qF E qL E E E E) ?_;refine qag (avs:=[_,_]) false E E E zD qfc E E (qmf 6 86 (qjx hlk hw 8 zD p hp hpat)) E (qbQ .nil) (by rintro r O' ⟨X,_,_,rfl⟩;exact frB E) (by rintro h;cases h) ?_
 rintro r O' ⟨XA,hXA,rfl,rfl⟩
 refine zX E (qab (qaG (l:=86) E zD (noL hL _) E E) (zA E (qS E E E) (zA E (qS E E E) (zX E ?_))))
 refine zX E (zK (qd (qd (qb (zX E (zA E (qaB E E) ?_))))));refine zK (qo E (fun c1=>?_) (fun c1=>?_))
 ·simp only[↓cqA,cqB]at c1
  rw [if_neg (show ¬ (mAll 8 l p).2=true by simp_all),if_neg (show ¬ (mAll 8 l p).2=true by simp_all)]
  refine qd (qb (zX E (zX E (zK (qn (qm ?_))))))
  change retQ _ _ _ _ _ _ _
  first
   | (rw [if_neg (show ¬ (qcA l&&okP p)=true by simp_all),if_neg (show ¬ (qcA l&&okP p)=true by simp_all)]
      refine retS (qam (t:=4) (l:=6) 55 4 true E E) (retO (O':=[(6,_)]) (by first|exact .inl E|exact .inr E) (qg E (qg E qh)) (SubO.cons E SubO.nil) ?_ ?_ (noL' (noL hL) _) ?_)
      ·rfl
      ·rfl
      exact ⟨[],rfl,rfl,rfl⟩)
   | (refine retO (O':=[(6,.rowd 55 4 true (mtDs (mAll 8 l p).1))]) (by first|exact .inl E|exact .inr E) (qg E (qg E qh)) (SubO.cons E SubO.nil) ?_ ?_ (noL' (noL hL) _) ?_
      ·rfl
      ·rfl
      exact ⟨_,rfl,rfl,rfl⟩)
   | (refine retS (qam (t:=4) (l:=6) 55 4 true E E) (retO (O':=[(6,_)]) (by first|exact .inl E|exact .inr E) (qg E (qg E qh)) (SubO.cons E SubO.nil) ?_ ?_ (noL' (noL hL) _) ?_)
      ·rfl
      ·rfl
      exact ⟨[],rfl,rfl,rfl⟩)
   | trace_state
 simp only[↓cqA,cqB]at c1
 have hAt:(mAll 8 l p).2=true:=by first|assumption|simpa using c1
 have hA1:(mAll 8 l p).1.length≤1000:=hMl.resolve_right (by rw [hAt];exact Bool.noConfusion)
 obtain rfl:=hXA hAt
 rw [if_pos hAt,if_pos hAt]
 refine qr (qa (qd (qb (zX E (qbW E E zD (qbn (avs:=[_]) false E qoe E E (qc0 2 6 (qo1 (n:=2 ^ 8) zD (mAll 8 l p).1 zO hM)) (fun _=>rfl) E) E (zX E (zX E ?_)))))));refine zK (qn ?_)
 change retQ _ _ _ _ _ _ _
 first
  | (rw [if_neg (show ¬ (qcA l&&okP p)=true by simp_all),if_neg (show ¬ (qcA l&&okP p)=true by simp_all)]
     refine retS (qam (t:=4) (l:=6) 55 4 true E E) (retO (O':=[(6,_)]) (by first|exact .inl E|exact .inr E) (qg E (qg E qh)) (SubO.cons E SubO.nil) ?_ ?_ (noL' (noL hL) _) ?_)
     ·rfl
     ·rfl
     exact ⟨[],rfl,rfl,rfl⟩)
  | (refine retO (O':=[(6,.rowd 55 4 true (mtDs (mAll 8 l p).1))]) (by first|exact .inl E|exact .inr E) (qg E (qg E qh)) (SubO.cons E SubO.nil) ?_ ?_ (noL' (noL hL) _) ?_
     ·rfl
     ·rfl
     exact ⟨_,rfl,rfl,rfl⟩)
  | (refine retS (qam (t:=4) (l:=6) 55 4 true E E) (retO (O':=[(6,_)]) (by first|exact .inl E|exact .inr E) (qg E (qg E qh)) (SubO.cons E SubO.nil) ?_ ?_ (noL' (noL hL) _) ?_)
     ·rfl
     ·rfl
     exact ⟨[],rfl,rfl,rfl⟩)
  | trace_state
end Go.Proofs.YtpgceiijoedppaaGreat