/- Part 47 of the proof: Of. -/
import Derived.Test.YtpgceiijoedppaaGreatC43
import Derived.Test.YtpgceiijoedppaaGreatC46
set_option linter.unusedVariables false
set_option linter.unusedSimpArgs false
set_option maxRecDepth 8000
namespace Go.Proofs.YtpgceiijoedppaaGreat
open Go
theorem shIns:∀ (l:List Int) (es':List (List D)),ShEs (inDs l) es'→∃ l',es'=inDs l'∧l'.length=l.length
 | [],es',h=>by simp only [inDs,List.map_nil,ShEs] at h;subst h;exact ⟨[],rfl,rfl⟩
 | b::l,es',h=>by
   simp only [inDs,List.map_cons,ShEs,ShCs,ShD] at h
   obtain ⟨e',es'',rfl,⟨_,_,rfl,⟨v,rfl,h0⟩,rfl⟩,h2⟩:=h
   obtain ⟨s',rfl⟩:=qkp h0
   obtain ⟨l',rfl,h4⟩:=shIns l es'' h2
   exact ⟨s'::l',rfl,by simp [h4]⟩
def mdl (d n:Nat)(m:Mt):Prop:=(∀ b∈m.b,dlb d b.t)∧m.b.length≤n∧m.u.length≤n
theorem shMts:∀ (l:List Mt) (es':List (List D)),ShEs (mtDs l) es'→∃ l',es'=mtDs l'∧l'.length=l.length∧∀ d n,(∀ m∈l,mdl d n m)→∀ m∈l',mdl d n m
 | [],es',h=>by simp only [mtDs,List.map_nil,ShEs] at h;subst h;exact ⟨[],rfl,rfl,fun d n _ u hu=>by cases hu⟩
 | b::l,es',h=>by
   simp only [mtDs,List.map_cons,mtD,ShEs,ShCs,ShD] at h
   obtain ⟨e',es'',rfl,⟨_,_,rfl,⟨bs,rfl,hb⟩,_,_,rfl,⟨v1,rfl,h1⟩,_,_,rfl,⟨v2,rfl,h2⟩,_,_,rfl,⟨us,rfl,hu⟩,rfl⟩,h3⟩:=h
   obtain ⟨f',rfl⟩:=qkp h1
   obtain ⟨t',rfl⟩:=qkp h2
   obtain ⟨b',rfl,hb1,hb2⟩:∃ b',bs=bdDs b'∧b'.length≤b.b.length∧∀ d,(∀ x∈b.b,dlb d x.t)→∀ x∈b',dlb d x.t:=by
    rcases hb with rfl|hb
    ·exact ⟨[],rfl,Nat.zero_le _,fun d _ x hx=>by cases hx⟩
    ·obtain ⟨b',rfl,e,h⟩:=shBds b.b bs hb
     exact ⟨b',rfl,by omega,h⟩
   obtain ⟨u',rfl,hu1⟩:∃ u',us=inDs u'∧u'.length≤b.u.length:=by
    rcases hu with rfl|hu
    ·exact ⟨[],rfl,Nat.zero_le _⟩
    ·obtain ⟨u',rfl,e⟩:=shIns b.u us hu
     exact ⟨u',rfl,by omega⟩
   obtain ⟨l',rfl,h4,h5⟩:=shMts l es'' h3
   refine ⟨⟨b',f',t',u'⟩::l',rfl,by simp [h4],fun d n hd u hu=>?_⟩
   rcases List.mem_cons.1 hu with rfl|hu
   ·obtain ⟨a1,a2,a3⟩:=hd b (by simp)
    exact ⟨hb2 d a1,Nat.le_trans hb1 a2,Nat.le_trans hu1 a3⟩
   ·exact h5 d n (fun u hu=>hd u (by simp [hu])) u hu
theorem qkq (l:List Int)(hl:l.length≤1000000):SPC Tryz.prog 90 (.dat true 1 (inDs l)):=by
 refine qiZ Tryz.func90 E Tryz.ntmps90 zL E fun c hL hQW hDD=>(qd (qb (zX E (zK (qv (qci (α:=List Int) (l.length) (fun k u=>u.length=l.length∧k≤l.length) (fun k u=>⟨[(0,.dat true 1 (inDs u)),(2,iv (k:Int))],[]⟩) (l) (⟨rfl,by omega⟩) ?_ (fun k u hk hp=>?_)))))))
 ·exact zR hL (zC E (zC E SubT.nil)) SubO.nil
 have hlu:=qbH u
 refine qd (qd (qb (zX E (zX E (zA E (qu E qaW E) (zA E (qj E E E E) (qc ?_)))))));refine qa (qo E (fun c0=>?_) (fun c0=>?_))
 ·simp only[↓cqA,cqB]at c0
  obtain ⟨x,hx⟩:=qM (l:=u) (k:=k) (by omega)
  refine qr (qa (qd (qv (qb (zX E (zX E (zA E (qp E qaW E E zO (qfa hx)) (qab (qC (T1:=[(11,.elp true [.imm (.int .i64 x)]),(0,.dat true 1 (inDs u)),(2,iv (k:Int))]) (O1:=[]) (zB E (zB E (zB E SubT.nil))) SubO.nil E E (noL' (noL hL) _)) (qep E E E qQ E E E E zD E hQW (fun T' O' hT hO=>?_))))))))))
  simp only [ShT,ShV,if_true] at hT
  obtain ⟨_,_,rfl,_,_,_,rfl,⟨es2,rfl,hes2⟩,_,_,rfl,rfl,rfl⟩:=hT
  simp only [ShO] at hO
  subst hO
  obtain ⟨u2,rfl,hu2⟩:=shIns u es2 hes2
  refine qc (qR (qa (qb (zX E (zA E (qO E E E zO) (zX E (qc ?_)))))));refine qa ?_;refine ⟨?_,u2,?_,?_⟩
  ·omega
  ·exact ⟨by omega,by omega⟩
  exact zR hL (zC E (zC E SubT.nil)) SubO.nil
 simp only[↓cqA,cqB]at c0
 refine qV (qq (qq (qad (ret0 (noL hL) (.inr E) qh ?_ ?_))))
 ·rfl
 exact ⟨rfl,rfl⟩
theorem qg4 (l:List Mt)(hd:∀ m∈l,mdl 5 1000000 m)(hl:l.length≤1000000):SPC Tryz.prog 44 (.dat true 4 (mtDs l)):=by
 refine qiZ Tryz.func44 E Tryz.ntmps44 zL E fun c hL hQW hDD=>(qd (qb (zX E (zK (qv (qci (α:=List Mt) (l.length) (fun k u=>(∀ m∈u,mdl 5 1000000 m)∧u.length=l.length∧k≤l.length) (fun k u=>⟨[(0,.dat true 4 (mtDs u)),(2,iv (k:Int))],[]⟩) (l) (⟨hd,rfl,by omega⟩) ?_ (fun k u hk hp=>?_)))))))
 ·exact zR hL (zC E (zC E SubT.nil)) SubO.nil
 have hlu:=qah u
 refine qd (qd (qb (zX E (zX E (zA E (qu E qw E) (zA E (qj E E E E) (qc ?_)))))));refine qa (qo E (fun c0=>?_) (fun c0=>?_))
 ·simp only[↓cqA,cqB]at c0
  obtain ⟨x,hx⟩:=qM (l:=u) (k:=k) (by omega)
  have hxd:=hp.1 x (List.mem_of_getElem? hx)
  refine qr (qa (qd (qv (qd (qb (zX E (zX E ?_)))))));refine zA E (qp E qw E E zO (qbR hx)) (zA E (qJ E qaH E) (zA E (qW E qaK E) (qab (qC (T1:=[(13,.dat true 5 (bdDs x.b)),(0,.dat true 4 (mtDs u)),(2,iv (k:Int))]) (O1:=[]) (zB E (zB E (zB E SubT.nil))) SubO.nil E E (noL' (noL hL) _)) (qff E E E zD qhi E E E E (qmz x.b hxd.1 hxd.2.1) hQW (fun T' O' hT hO=>?_)))))
  simp only [ShT,ShV,if_true] at hT
  obtain ⟨_,_,rfl,_,_,_,rfl,⟨es,rfl,hes⟩,_,_,rfl,rfl,rfl⟩:=hT
  simp only [ShO] at hO
  subst hO
  obtain ⟨u1,rfl,hu1,hud1⟩:=shMts u es hes
  have hlu1:=qah u1
  obtain ⟨x1,hx1⟩:=qM (l:=u1) (k:=k) (by omega)
  have hp1:=hud1 5 1000000 hp.1
  have hxd1:=hp1 x1 (List.mem_of_getElem? hx1)
  refine zK (qd (qb (zX E (zX E (zA E (qp E qw E E zO (qbR hx1)) (zA E (qJ E qaV E) ?_))))));refine zA E (qW E qbZ E) (qab (qC (T1:=[(19,.dat true 1 (inDs x1.u)),(0,.dat true 4 (mtDs u1)),(2,iv (k:Int))]) (O1:=[]) (zB E (zB E (zB E SubT.nil))) SubO.nil E E (noL' (noL hL) _)) (qff E E E zD qgN E E E E (qkq x1.u hxd1.2.2) hQW (fun T' O' hT hO=>?_)))
  simp only [ShT,ShV,if_true] at hT
  obtain ⟨_,_,rfl,_,_,_,rfl,⟨es1,rfl,hes1⟩,_,_,rfl,rfl,rfl⟩:=hT
  simp only [ShO] at hO
  subst hO
  obtain ⟨u3,rfl,hu3,hud3⟩:=shMts u1 es1 hes1
  have hlu3:=qah u3
  obtain ⟨x3,hx3⟩:=qM (l:=u3) (k:=k) (by omega)
  refine zK (qb (zX E (zX E (zA E (qaF E qao E qbd E E) (zA E (qp E qw E E zO (qbR hx3)) (qab (qC (T1:=[(24,.elp true (mtD x3)),(23,.agg [.imm (.slice none 0 0),iv 0,iv 0,.imm (.slice none 0 0)]),(0,.dat true 4 (mtDs u3)),(2,iv (k:Int))]) (O1:=[]) (zB E (zB E (zB E (zB E SubT.nil)))) SubO.nil E E (noL' (noL hL) _)) (qep E E E qK E E E E zD E hQW (fun T' O' hT hO=>?_))))))))
  simp only [ShT,ShV,if_true] at hT
  obtain ⟨_,_,rfl,_,_,_,rfl,_,_,_,rfl,⟨es2,rfl,hes2⟩,_,_,rfl,rfl,rfl⟩:=hT
  simp only [ShO] at hO
  subst hO
  obtain ⟨u2,rfl,hu2,hud2⟩:=shMts u3 es2 hes2
  refine qc (qR (qa (qb (zX E (zA E (qO E E E zO) (zX E (qc ?_)))))));refine qa ?_;refine ⟨?_,u2,?_,?_⟩
  ·omega
  ·exact ⟨hud2 _ _ (hud3 _ _ hp1),by omega,by omega⟩
  exact zR hL (zC E (zC E SubT.nil)) SubO.nil
 simp only[↓cqA,cqB]at c0
 refine qV (qq (qq (qad (ret0 (noL hL) (.inr E) qh ?_ ?_))))
 ·rfl
 exact ⟨rfl,rfl⟩
theorem qpU {l:List Kp}(hl:qhK l)(hw:∀ k∈l,k.wf)(p:Pt)(hp:p.wf)(hb:patB 8 p=true)(n:Int):PF 41 [.dat false 7 (kpDs l),ptA false p,iv n] (.tup [.dat false 4 (mtDs ((mAll 8 l p).1.filter (newM n))),bv (mAll 8 l p).2]):=by
 have hM:=qcs hl hw 8 p hp hb
 have hMk:(mAll 8 l p).1.length≤1000000:=by
  rw [mAll]
  split
  ·have h1:=(qfj (f:=ordM) (l.filterMap (qcj p.t)) []).2
   have h2:=List.length_filterMap_le (qcj p.t) l
   have h3:=hl.1
   simp only [List.length_nil] at h1
   simp only [];omega
  ·rename_i hk
   obtain ⟨_,_,_,_,_,h1,h2,_⟩:=qdV hb hk
   split
   ·rename_i hf
    simp only [Bool.and_eq_true] at hf
    have hA:=(qfl hl hw 7 (hdP p.l) (qds hp.2.2.2.1.2) h1).resolve_right (by rw [hf.1.1];exact Bool.noConfusion)
    have hB:=(qfl hl hw 7 (hdP p.r) (qds hp.2.2.2.2.1.2) h2).resolve_right (by rw [hf.1.2];exact Bool.noConfusion)
    split
    ·have h3:=(qfj (f:=ordM) (mAll 7 l (hdP p.r)).1 (mAll 7 l (hdP p.l)).1).2
     simp only [];omega
    ·have:=qqw (qbK ordM [] ((mAll 7 l (hdP p.l)).1.flatMap fun a=>(mAll 7 l (hdP p.r)).1.filterMap (qb0 p.kind p.rel (if p.kind=5 then (mAll 7 l (hdP p.c)).1 else []) a)))
     omega
   ·simp
 have key:=qmD hl hw 8 (by omega) p hp hb
 generalize (mAll 8 l p).1=M at*
 generalize (mAll 8 l p).2=ok at*
 have hlM:=qah M
 refine qI Tryz.func41 E Tryz.ntmps41 zL fun c hL hQ hDD=>(qd (qb (qt E E zD (q6 4 E E E) E (zX E (zX E (zK ?_))))));refine qd (qb (zX E (zA E (qF E qL E E E E) ?_)))
 refine qag (avs:=[_,_]) false E E E zD qb1 E E (qc0 6 86 key) E (qbQ .nil) (by rintro r O' ⟨_,rfl⟩;exact frB E) (by rintro h;cases h) ?_
 rintro r O' ⟨rfl,rfl⟩
 refine zX E (qab (qaG (l:=86) E zD (noL hL _) E E) (zA E (qS E E E) (zA E (qS E E E) (zX E ?_))))
 refine zX E (zK (qd (qb (zX E (zK ?_)))));refine qd (qd (qb (zX E (zK (qv (qac (M.length) (fun i=>i≤M.length) (fun i=>⟨[(2,iv n),(8,.dat false 4 (mtDs M)),(9,bv ok),(10,.row 0),(11,iv (i:Int))],[(0,.rowd 55 4 false (mtDs ((M.take i).filter (newM n))))]⟩) zO ?_ (fun i hi hpi=>?_)))))))
 ·exact Sub.trans (qam (t:=10) (l:=0) 55 4 false E E) (qC (zC E (zC E (zC E (zC E (zC E SubT.nil))))) (SubO.cons (qU E (by rfl)) SubO.nil) E E (noL' (noL hL) _))
 have hl2:(mtDs ((M.take i).filter (newM n))).length≤M.length:=by
  rw [qah]
  exact qq9 (newM n) M i
 refine qd (qd (qb (zX E (zX E (zA E (qu E qw E) (zA E (qj E E E E) (qc ?_)))))));refine qa (qo E (fun c0=>?_) (fun c0=>?_))
 ·simp only[↓cqA,cqB]at c0
  obtain ⟨x,hx⟩:=qM (l:=M) (k:=i) (by omega)
  have hxo:=hM x (List.mem_of_getElem? hx)
  have hxu:=hxo.ul
  have hdu:=qbH x.u
  have hft:=qpc (newM n) hx
  refine qr (qa (qd (qv (qd (qb (zX E (qc ?_)))))));refine qa (qd (qd (qb (zX E (qc (qa (qv (qac (x.u.length) (fun j=>j≤x.u.length) (fun j=>⟨[(2,iv n),(8,.dat false 4 (mtDs M)),(9,bv ok),(10,.row 0),(11,iv (i:Int)),(12,bv ((x.u.take j).any fun k=>decide (k≥n))),(13,iv (j:Int))],[(0,.rowd 55 4 false (mtDs ((M.take i).filter (newM n))))]⟩) zO ?_ (fun j hj hpj=>?_)))))))))
  ·exact zR hL (zC E (zC E (zC E (zC E (zC E (zC E (zC E SubT.nil))))))) (SubO.cons (qU E (by rfl)) SubO.nil)
  refine qd (qd (qb (zX E (zX E (zX E (zA E (qp E qw E E zO (qbR hx)) (zA E (qJ E qaV E) ?_)))))));refine zA E (qW E qbZ E) (zA E (qu E qaW E) (zA E (qj E E E E) (zK (qo E (fun c1=>?_) (fun c1=>?_)))))
  ·simp only[↓cqA,cqB]at c1
   obtain ⟨z,hz⟩:=qM (l:=x.u) (k:=j) (by omega)
   have hany:(x.u.take (j+1)).any (fun k=>decide (k≥n))=((x.u.take j).any (fun k=>decide (k≥n)) || decide (z≥n)):=by
    rw [qas hz,List.any_append];simp
   refine qr (qa (qd (qv (qb (zX E (zX E (qE 37 E (fun g37=>?_) (fun g37=>?_))))))))
   ·refine zY E (zY E (zY E (zY E (zY E (zY E (zY E (zY E (zY E (zY E (zA E (qk E E E) (zX E ?_)))))))))))
    refine qc (qR (qa (qb (zX E (zA E (qO E E E zO) (zX E (qc ?_)))))));refine qa ?_;refine ⟨?_,?_,?_⟩
    ·omega
    ·omega
    exact zR hL (zC E (zC E (zC E (zC E (zC E (SubT.cons (qaw E (by first|(rw [hany,g37];rfl)|(rw [hany,g37,Bool.false_or];done))) (zC E SubT.nil))))))) (SubO.cons (qU E (by rfl)) SubO.nil)
   refine zZ E (ql (.inl E) E) (zZ E (ql (.inl E) E) (zZ E (qp E qw E E zO (qbR hx)) (zZ E (qJ E qaV E) (zZ E (qW E qbZ E) (zZ E (ql (.inl E) E) (zZ E (qp E qaW E E zO (qfa hz)) (zZ E (qW E qQ E) (zZ E (ql (.inl E) E) (zZ E (qj E E E E) (zA E (qk E E E) (zX E (qc (qR (qa (qb ?_)))))))))))))))
   refine zX E (zA E (qO E E E zO) (zX E (zK ?_)));refine ⟨?_,?_,?_⟩
   ·omega
   ·omega
   exact zR hL (zC E (zC E (zC E (zC E (zC E (SubT.cons (qaw E (by first|(rw [hany,g37];rfl)|(rw [hany,g37,Bool.false_or];done))) (zC E SubT.nil))))))) (SubO.cons (qU E (by rfl)) SubO.nil)
  simp only[↓cqA,cqB]at c1
  have hall:x.u.take j=x.u:=List.take_of_length_le (by omega)
  rw [hall]
  have hnw:(x.u.any fun k=>decide (k≥n))=newM n x:=rfl
  rw [hnw]
  refine qV (qq (qq (qad ?_)));refine qa (qd (qb (zX E (zK (qo E (fun c2=>?_) (fun c2=>?_))))))
  ·rw [if_pos (by assumption)] at hft
   refine qb (zX E (zX E (zX E (zA E (qp E qw E E zO (qbR hx)) (zA E (qD E qK E E) (qt E E zD (qaj 55 E qw qao E E zD zD zD E E E) E ?_))))))
   refine qbW E E zD (qaU 56 qbL E E E E E E E E (noL hL _) zO E) E (qab (qZ 56 0 (noL hL _) (noL hL _)) (zX E (qc (qR (qa (qb (zX E ?_)))))));refine zA E (qO E E E zO) ?_
   refine zX E (zK ?_);refine ⟨?_,?_,?_⟩
   ·omega
   ·omega
   exact zR hL (zC E (zC E (zC E (zC E (zC E SubT.nil))))) (SubO.cons (qU E (by first|(rw [hft,qhB];rfl)|(rw [hft];done))) SubO.nil)
  rw [if_neg (by simp_all),List.append_nil] at hft
  refine qr (qR (qa (qb (zX E (zA E (qO E E E zO) (zX E (qc ?_)))))));refine qa ?_;refine ⟨?_,?_,?_⟩
  ·omega
  ·omega
  exact zR hL (zC E (zC E (zC E (zC E (zC E SubT.nil))))) (SubO.cons (qU E (by first|(rw [hft,qhB];rfl)|(rw [hft];done))) SubO.nil)
 simp only[↓cqA,cqB]at c0
 have hallM:M.take i=M:=List.take_of_length_le (by omega)
 rw [hallM]
 refine qbI (qaG (l:=0) E zD (noL hL _) E E) (qV (qq (qq (qad ?_))));refine qa (qd (qb (zX E (zX E (zX E (zX E (qc ?_)))))));refine qa (qn (zI hL (qg E (qg E qh)) ?_ ?_))
 ·rfl
 exact ⟨rfl,rfl⟩
end Go.Proofs.YtpgceiijoedppaaGreat