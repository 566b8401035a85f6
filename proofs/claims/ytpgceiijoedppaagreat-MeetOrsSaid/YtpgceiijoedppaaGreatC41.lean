/- Part 41 of the proof: Nf. -/
import Derived.Ground.SlsfProg
import Derived.Test.YtpgceiijoedppaaGreatC36
import Derived.Test.YtpgceiijoedppaaGreatC37
set_option linter.unusedVariables false
set_option linter.unusedSimpArgs false
set_option maxRecDepth 8000
namespace Go.Proofs.YtpgceiijoedppaaGreat
open Go
variable {a:Mt}{i k n:Nat}{l:List Kp}
theorem qsh (p:Pt){q:Nat}(hn:n≤1000000)(hk:k≤1000000)(a b:Mt)(ha:MOk n a)(hb:MOk k b)(cl:List Mt)(hc:∀ x∈cl,MOk q x)(hcl:cl.length≤1000000)(hr:p.kind=6→1≤p.rel∧p.rel≤13):PF 63 [ptA false p,mtA a,mtA b,.dat false 4 (mtDs cl)] (.tup [mtA ((qb0 p.kind p.rel cl a b).getD zeroM),bv (qb0 p.kind p.rel cl a b).isSome]):=by
 refine qkU ?_
 cases hl:qfI p.kind p.rel a b with
 | true=>exact qq4 p hn hk a b ha hb cl hc hcl hr hl
 | false=>exact qsi p a b cl hr hl
theorem qqS (t:Tm)(hd:dle 5 t)(hs:t.shp)(hw:t.wf)(u:Tm)(hu:u.wf)(hm:mayT u=true)(hg:Gr u):PF 61 [.imm (.slice none 0 0),tmA false t,tmA false u] (.tup [.dat true 5 (bdDs (fitR 5 [] t u).1),iv (fitR 5 [] t u).2]):=
 AC_le (.cons .nil (.cons .refl (.cons .refl .nil))) (qnF 5 [] t u hd hs hw qqI hu hm hg)
theorem qeH {α β:Type}(f:α→Option β){l:List α}{u:α}(h:l[k]?=some u):(l.take (k+1)).filterMap f=(l.take k).filterMap f++(f u).toList:=by
 rw [qas h,List.filterMap_append]
 cases hf:f u<;>simp [hf]
theorem qeM {f:Mt→Mt→Int}(l m n:List Mt):qbK f l (m++n)=qbK f (qbK f l m) n:=by simp [qbK]
theorem qfj {f:Mt→Mt→Int}:∀ (m l:List Mt),l.length≤(qbK f l m).length∧(qbK f l m).length≤l.length+m.length
 | [],l=>by simp [qbK]
 | t::m,l=>by
   have h1:=putG_len f l t
   have h2:=qfj (f:=f) m (putG f l t)
   rw [show qbK f l (t::m)=qbK f (putG f l t) m from rfl]
   simp only [List.length_cons]
   omega
theorem MOk.io {m:Mt}(h:MOk n m)(hn:n≤1000000):m.wf∧∀ x∈m.b,Go.Proofs.YtpgceiijoedppaaGreat.dle 5 x.t:=⟨h.wf hn,h.dle⟩
def AllC (l:List Kp)(d:Nat):Prop:=∀ p:Pt,p.wf→patB d p=true→AC Tryz.prog 22 [.dat false 7 (kpDs l),ptA false p] [] (fun r O=>r=.tup [.row 6,bv (mAll d l p).2]∧O=[(6,.rowd 55 4 false (mtDs (mAll d l p).1))])
theorem qrT (hl:qhK l)(hw:∀ k∈l,k.wf)(d:Nat)(p:Pt)(hp:p.wf)(hb:patB (d+1) p=true)(hk:p.kind=1):AC Tryz.prog 22 [.dat false 7 (kpDs l),ptA false p] [] (fun r O=>r=.tup [.row 6,bv (mAll (d+1) l p).2]∧O=[(6,.rowd 55 4 false (mtDs (mAll (d+1) l p).1))]):=by
 have hlen:=qc3 l
 obtain ⟨hl3,hlm⟩:=id hl
 obtain ⟨ht1,_⟩:=qiz hb hk
 have htw:=hp.2.1
 have hm:mAll (d+1) l p=(qbK ordM [] (l.filterMap (qcj p.t)),decide ((qbK ordM [] (l.filterMap (qcj p.t))).length≤1000)):=by rw [mAll,if_pos hk]
 rw [hm]
 have hin:∀ k,∀ a∈qbK ordM [] ((l.take k).filterMap (qcj p.t)),a.wf∧∀ x∈a.b,dle 5 x.t:=fun k a ha=>by
  rcases qgu _ _ _ ha with h|h
  ·cases h
  ·obtain ⟨u,hu,h⟩:=List.mem_filterMap.1 h
   exact (qj1 ht1 htw (hlm u (List.mem_of_mem_take hu)) (hw u (List.mem_of_mem_take hu)) h).io zD
 have hll:∀ k,(qbK ordM [] ((l.take k).filterMap (qcj p.t))).length≤1000000:=fun k=>by
  have h1:=(qfj (f:=ordM) ((l.take k).filterMap (qcj p.t)) []).2
  have h2:=List.length_filterMap_le (qcj p.t) (l.take k)
  rw [List.length_take] at h2
  simp only [List.length_nil] at h1
  omega
 refine qI Tryz.func22 E Tryz.ntmps22 zL fun c hL hQ hDD=>(qd (qb (qt E E zD (q6 3 E E E) E (zX E (zX E (zK ?_))))));refine qd (qb (zX E (zK (qd (qd (qb (zA E (qe E qap E) (zA E (qi E qQ E E E E E) (zA E (qj E E E E) (zK (qo E (fun c0=>?_) (fun c0=>?_))))))))))))
 ·simp only[↓cqA,cqB]at c0
  refine qd (qd (qb (zX E (zK (qv (qac (l.length) (fun k=>k≤l.length) (fun k=>⟨[(0,.dat false 7 (kpDs l)),(3,.ptr 3 0),(6,.row 0),(7,iv (k:Int))],[(0,.rowd 55 4 false (mtDs (qbK ordM [] ((l.take k).filterMap (qcj p.t))))),(3,.box (lift false (ptD p)))]⟩) zO ?_ (fun k hk hp=>?_)))))))
  ·exact Sub.trans (qam (t:=6) (l:=0) 55 4 false E E) (qC (zC E (zC E (zC E (zC E SubT.nil)))) (SubO.cons (qU E (by rfl)) (SubO.cons (qU E (by rfl)) SubO.nil)) E E (noL' (noL hL) _))
  refine qd (qd (qb (zX E (zX E (zA E (qu E qaf E) (zA E (qj E E E E) (qc ?_)))))));refine qa (qo E (fun c1=>?_) (fun c1=>?_))
  ·simp only[↓cqA,cqB]at c1
   obtain ⟨u,hu⟩:=qM (l:=l) (k:=k) (by omega)
   have hum:=List.mem_of_getElem? hu
   have huw:=hw u hum
   have huf:=hlm u hum
   have hub:=huf
   simp only [qer,Bool.and_eq_true,decide_eq_true_eq] at hub
   obtain ⟨⟨⟨_,hu1⟩,hu2⟩,_⟩:=hub
   have hft:=qeH (qcj p.t) hu
   refine qr (qa (qd (qv (qd (qX 13 mixed E E E E (zU E (qe E qa6 E) (zU E (qi E qz E E E E E) ?_)))))));refine zU E (ql (.inl E) E) (zU E (ql (.inl E) E) (zU E (qp E qaf E E zO (qby hu)) (zU E (qJ E qaM E) (zU E (qJ E qbh E) (zU E (qgo E qz E E E) (zU E (qai (avs:=[_,_,_]) true E qeQ E E (qqS p.t (qbN ht1) (qdd ht1) htw u.f.t huw.2.1 hu1 ((qkV (qbN hu1)).1 hu2)) (fun _=>rfl) E) (zU E (ql (.inl E) E) (zU E (qS E E E) ?_))))))))
   refine zU E (qS E E E) (zU E (ql (.inr E) E) (qaq ⟨rfl,rfl,?_⟩));refine zX E (zK (qd (qb (zX E (zA E (qj E E E E) (qc ?_))))));refine qa (qo E (fun c2=>?_) (fun c2=>?_))
   ·simp only[↓cqA,cqB]at c2
    have hte:qcj p.t u=some ⟨(fitR 5 [] p.t u.f.t).1,u.f.fr,u.f.to,[u.seq]⟩:=by rw [qcj,if_pos c2]
    have hmo:=(qj1 ht1 htw huf huw hte).io (by decide)
    rw [hte] at hft
    refine qbI (qdi hQ) (qX 15 mixed E E E E (zU E (ql (.inl E) E) (zU E (ql (.inl E) E) (zU E (ql (.inl E) E) (zU E (ql (.inl E) E) (zU E (qp E qaf E E zO (qby hu)) (zU E (qJ E qaM E) (zU E (qJ E qct E) (zU E (qD E qav E E) (zU E (ql (.inl E) E) (zU E (ql (.inl E) E) (zU E (qp E qaf E E zO (qby hu)) (zU E (qJ E qa4 E) ?_)))))))))))))
    refine zU E (qW E qQ E) (zU E (qbk false E qaW qhR E E zD zD zD E E E E) (zU E (qaF E qao E qbd E E) (qaq ⟨rfl,rfl,?_⟩)))
    refine qeo ⟨[(59,.row 0),(0,.dat false 7 (kpDs l)),(3,.ptr 3 0),(7,iv (k:Int))],(0,.rowd 55 4 false (mtDs (putG ordM (qbK ordM [] ((l.take k).filterMap (qcj p.t))) ((⟨(fitR 5 [] p.t u.f.t).1,u.f.fr,u.f.to,[u.seq]⟩:Mt)))))::[(3,.box (lift false (ptD p)))]⟩ (fun Q2 K=>?_) ?_
    ·have hqR:=qkD (qbK ordM [] ((l.take k).filterMap (qcj p.t))) (hll k) (hin k) ((⟨(fitR 5 [] p.t u.f.t).1,u.f.fr,u.f.to,[u.seq]⟩:Mt)) hmo.1
     have hqG:=qkE (qbK ordM [] ((l.take k).filterMap (qcj p.t))) (hll k) (hin k) ((⟨(fitR 5 [] p.t u.f.t).1,u.f.fr,u.f.to,[u.seq]⟩:Mt)) hmo.1
     generalize hLL:(qbK ordM [] ((l.take k).filterMap (qcj p.t)))=LL at*
     refine qab (qC (T1:=[(44,.row 0),(58,mtA ((⟨(fitR 5 [] p.t u.f.t).1,u.f.fr,u.f.to,[u.seq]⟩:Mt))),(0,.dat false 7 (kpDs l)),(3,.ptr 3 0),(7,iv (k:Int))]) (O1:=(0,.rowd 55 4 false (mtDs LL))::[(3,.box (lift false (ptD p)))]) (zB E (zB E (zB E (zB E (zB E SubT.nil))))) (SubO.cons E (SubO.cons E SubO.nil)) E E (noL' (noL hL) _)) ?_
     have h9:=qah LL
     refine qdG (l:=0) E zD (noL hL _) (fun he=>?_) (fun cap h1 h2=>?_)
     ·have hl0:LL=[]:=by
       rw [he] at h9;exact List.eq_nil_of_length_eq_zero h9.symm
      rw [hl0] at K
      refine qag (avs:=[_,_]) false E E E zD qbi E E (qh7 ((⟨(fitR 5 [] p.t u.f.t).1,u.f.fr,u.f.to,[u.seq]⟩:Mt)) hmo.1) E (qbQ .nil) (by rintro r O' ⟨_,rfl⟩;exact frB E) (by rintro h;cases h) ?_
      rintro r O' ⟨rfl,rfl⟩
      exact qab (Sub.trans (qC (T1:=[(59,.row 9),(0,.dat false 7 (kpDs l)),(3,.ptr 3 0),(7,iv (k:Int))]) (O1:=(9,.rowd 55 4 false (mtDs (putG ordM [] ((⟨(fitR 5 [] p.t u.f.t).1,u.f.fr,u.f.to,[u.seq]⟩:Mt)))))::[(3,.box (lift false (ptD p)))]) (zB E (zB E (zB E (zB E SubT.nil)))) (SubO.cons E (SubO.cons E SubO.nil)) E E (noL' (noL hL) _)) (Sub.trans (qZ 9 0 (noL hL _) (noL hL _)) (qC (zB E (zB E (zB E (zB E SubT.nil)))) (SubO.cons E (SubO.cons E SubO.nil)) E E (noL' (noL hL) _)))) K
     ·by_cases hroom:LL.length+1≤cap
      ·refine qag (avs:=[_,_]) false E E E zD qbi E E (hqR cap zO h2 hroom) E (qbQ (.cons E trivial E .nil)) (by rintro r O' ⟨J,c2,_,⟨_,rfl⟩|⟨_,rfl⟩⟩<;>exact frB E) (by rintro h;cases h) ?_
       rintro r O' ⟨J,c2,hc2,⟨rfl,rfl⟩|⟨rfl,rfl⟩⟩
       ·exact qab (Sub.trans (qbm (l:=0) (cap:=c2) (n:=(mtDs (putG ordM LL ((⟨(fitR 5 [] p.t u.f.t).1,u.f.fr,u.f.to,[u.seq]⟩:Mt)))).length) (mtDs (putG ordM LL ((⟨(fitR 5 [] p.t u.f.t).1,u.f.fr,u.f.to,[u.seq]⟩:Mt)))) E (noL hL _) ⟨J,rfl⟩ E (by simp;omega)) (qC (SubT.cons (qaw E (by simp [AV.rp,clV])) (zB rfl (zB rfl (zB rfl SubT.nil)))) (SubO.cons rfl (SubO.cons rfl SubO.nil)) rfl rfl (noL' (noL hL) _))) K
       ·exact qab (Sub.trans (qbm (l:=9) (cap:=c2) (n:=(mtDs (putG ordM LL ((⟨(fitR 5 [] p.t u.f.t).1,u.f.fr,u.f.to,[u.seq]⟩:Mt)))).length) (mtDs (putG ordM LL ((⟨(fitR 5 [] p.t u.f.t).1,u.f.fr,u.f.to,[u.seq]⟩:Mt)))) E (noL hL _) ⟨J,rfl⟩ E (by simp;omega)) (Sub.trans (qC (T1:=[(59,.row 9),(0,.dat false 7 (kpDs l)),(3,.ptr 3 0),(7,iv (k:Int))]) (O1:=(9,.rowd 55 4 false (mtDs (putG ordM LL ((⟨(fitR 5 [] p.t u.f.t).1,u.f.fr,u.f.to,[u.seq]⟩:Mt)))))::[(3,.box (lift false (ptD p)))]) (SubT.cons (qaw E (by simp [AV.rp,clV])) (zB rfl (zB rfl (zB rfl SubT.nil)))) (SubO.cons rfl (SubO.cons rfl SubO.nil)) rfl rfl (noL' (noL hL) _)) (Sub.trans (qZ 9 0 (noL hL _) (noL hL _)) (qC (zB rfl (zB rfl (zB rfl (zB rfl SubT.nil)))) (SubO.cons rfl (SubO.cons rfl SubO.nil)) rfl rfl (noL' (noL hL) _))))) K
      ·refine qag (avs:=[_,_]) false E E E zD qbi E E (hqG cap zO h2 zO) E (qbQ (.cons E trivial E .nil)) (by rintro r O' ⟨J,c2,_,⟨_,rfl⟩|⟨_,rfl⟩⟩<;>exact frB E) (by rintro h;cases h) ?_
       rintro r O' ⟨J,c2,hc2,⟨rfl,rfl⟩|⟨rfl,rfl⟩⟩
       ·exact qab (Sub.trans (qbm (l:=0) (cap:=c2) (n:=(mtDs (putG ordM LL ((⟨(fitR 5 [] p.t u.f.t).1,u.f.fr,u.f.to,[u.seq]⟩:Mt)))).length) (mtDs (putG ordM LL ((⟨(fitR 5 [] p.t u.f.t).1,u.f.fr,u.f.to,[u.seq]⟩:Mt)))) E (noL hL _) ⟨J,rfl⟩ E (by simp;omega)) (qC (SubT.cons (qaw E (by simp [AV.rp,clV])) (zB rfl (zB rfl (zB rfl SubT.nil)))) (SubO.cons rfl (SubO.cons rfl SubO.nil)) rfl rfl (noL' (noL hL) _))) K
       ·exact qab (Sub.trans (qbm (l:=9) (cap:=c2) (n:=(mtDs (putG ordM LL ((⟨(fitR 5 [] p.t u.f.t).1,u.f.fr,u.f.to,[u.seq]⟩:Mt)))).length) (mtDs (putG ordM LL ((⟨(fitR 5 [] p.t u.f.t).1,u.f.fr,u.f.to,[u.seq]⟩:Mt)))) E (noL hL _) ⟨J,rfl⟩ E (by simp;omega)) (Sub.trans (qC (T1:=[(59,.row 9),(0,.dat false 7 (kpDs l)),(3,.ptr 3 0),(7,iv (k:Int))]) (O1:=(9,.rowd 55 4 false (mtDs (putG ordM LL ((⟨(fitR 5 [] p.t u.f.t).1,u.f.fr,u.f.to,[u.seq]⟩:Mt)))))::[(3,.box (lift false (ptD p)))]) (SubT.cons (qaw E (by simp [AV.rp,clV])) (zB rfl (zB rfl (zB rfl SubT.nil)))) (SubO.cons rfl (SubO.cons rfl SubO.nil)) rfl rfl (noL' (noL hL) _)) (Sub.trans (qZ 9 0 (noL hL _) (noL hL _)) (qC (zB rfl (zB rfl (zB rfl (zB rfl SubT.nil)))) (SubO.cons rfl (SubO.cons rfl SubO.nil)) rfl rfl (noL' (noL hL) _))))) K
    refine zX E (qc (qR (qa (qb (zX E (zA E (qO E E E zO) (zX E ?_)))))));refine zK ?_;refine ⟨?_,?_,?_⟩
    ·omega
    ·omega
    exact zR hL (zC E (zC E (zC E (zC E SubT.nil)))) (SubO.cons (qU E (by first|(rw [hft,qeM];done)|(rw [hft,qeM];rfl)|(rw [hft,Option.toList_none,List.append_nil];done))) (SubO.cons (qU E (by rfl)) SubO.nil))
   simp only[↓cqA,cqB]at c2
   have hte:qcj p.t u=none:=by rw [qcj,if_neg c2]
   rw [hte] at hft
   refine qr (qR (qa (qb (zX E (zA E (qO E E E zO) (zX E (qc ?_)))))));refine qa ?_;refine ⟨?_,?_,?_⟩
   ·omega
   ·omega
   exact zR hL (zC E (zC E (zC E (zC E SubT.nil)))) (SubO.cons (qU E (by first|(rw [hft,qeM];done)|(rw [hft,qeM];rfl)|(rw [hft,Option.toList_none,List.append_nil];done))) (SubO.cons (qU E (by rfl)) SubO.nil))
  simp only[↓cqA,cqB]at c1
  have hall:l.take k=l:=List.take_of_length_le (by omega)
  have hlr:=qah (qbK ordM [] (l.filterMap (qcj p.t)))
  rw [hall]
  refine qV (qq (qq (qad ?_)));refine qa (qd (qb (zX E (zX E (zA E (qbf E qw E E) (zA E (qj E E E E) (zX E (zX E (zK (qn (qm ?_)))))))))))
  change retQ _ _ _ _ _ _ _
  refine retS (qZ 0 6 (noL hL _) (noL hL _)) (retO (O':=[(6,_)]) (.inl E) (qg E (qg E qh)) (SubO.cons E SubO.nil) ?_ ?_ (noL' (noL hL) _) ?_)
  ·rfl
  ·rfl
  refine ⟨?_,rfl⟩
  show AV.tup [.row 6,_]=_
  congr 2
  refine congrArg (fun x=>[x]) (qbs ?_)
  rw [hlr,Bool.eq_iff_iff,decide_eq_true_eq,decide_eq_true_eq]
  omega
 simp only[↓cqA,cqB]at c0
 omega
theorem qkX (kind rel:Int)(c:List Mt){A B:List Mt}(ha:A[i]?=some a)(j:Nat):∃ rest,qdj kind rel c A B=qdj kind rel c (A.take i) B++(B.take j).filterMap (qb0 kind rel c a)++rest:=by
 obtain ⟨q1,q2⟩:=List.getElem?_eq_some_iff.1 ha
 have h1:A=A.take i++a::A.drop (i+1):=by
  conv=>lhs;rw [← List.take_append_drop i A,List.drop_eq_getElem_cons q1,q2]
 refine ⟨(B.drop j).filterMap (qb0 kind rel c a)++qdj kind rel c (A.drop (i+1)) B,?_⟩
 conv=>lhs;rw [h1]
 simp only [qdj,List.flatMap_append,List.flatMap_cons,List.append_assoc]
 congr 1
 rw [← List.append_assoc,← List.filterMap_append,List.take_append_drop]
theorem ql4 (kind rel:Int)(c:List Mt){A B:List Mt}(ha:A[i]?=some a):qdj kind rel c (A.take (i+1)) B=qdj kind rel c (A.take i) B++B.filterMap (qb0 kind rel c a):=by
 rw [qas ha]
 simp [qdj]
theorem qrU (hl:qhK l)(hw:∀ k∈l,k.wf)(d:Nat)(hd:d≤10)(p:Pt)(hp:p.wf)(hb:patB (d+1) p=true)(hk:p.kind≠1)(ih:AllC l d):AC Tryz.prog 22 [.dat false 7 (kpDs l),ptA false p] [] (fun r O=>r=.tup [.row 6,bv (mAll (d+1) l p).2]∧O=[(6,.rowd 55 4 false (mtDs (mAll (d+1) l p).1))]):=by
 obtain ⟨hkr,hl1,hr1,hc5,hrel,hbl,hbr,hbc,hc1⟩:=qdV hb hk
 have hpl:=qds hp.2.2.2.1.2
 have hpr:=qds hp.2.2.2.2.1.2
 have hpc:=qds hp.2.2.2.2.2.2
 have hA:=qcs hl hw d (hdP p.l) hpl hbl
 have hB:=qcs hl hw d (hdP p.r) hpr hbr
 have hAl:=qfl hl hw d (hdP p.l) hpl hbl
 have hBl:=qfl hl hw d (hdP p.r) hpr hbr
 have hCC:∀ x∈(if p.kind=5 then (mAll d l (hdP p.c)).1 else []),MOk (2 ^ d) x:=fun x hx=>by
  split at hx
  ·rename_i h5;exact qcs hl hw d (hdP p.c) hpc (hbc h5) x hx
  ·cases hx
 have hCl:(p.kind != 5 || (mAll d l (hdP p.c)).2)=true→(if p.kind=5 then (mAll d l (hdP p.c)).1 else []).length≤1000:=fun h=>by
  split
  ·rename_i h5
   rw [h5] at h
   have h2:(mAll d l (hdP p.c)).2=true:=by simpa using h
   rcases qfl hl hw d (hdP p.c) hpc (hbc h5) with h3|h3
   ·exact h3
   ·rw [h2] at h3;cases h3
  ·simp
 have h2d:2 ^ d≤1024:=Nat.le_trans (Nat.pow_le_pow_right (by decide) hd) (by decide)
 have hdl:=qaQ p.l
 have hdr:=qaQ p.r
 have hdc:=qaQ p.c
 have hlA:=qah (mAll d l (hdP p.l)).1
 have hlB:=qah (mAll d l (hdP p.r)).1
 have hbad:((mAll d l (hdP p.l)).2&&(mAll d l (hdP p.r)).2&&(p.kind != 5 || (mAll d l (hdP p.c)).2))=false→mAll (d+1) l p=([],false):=fun h=>by
  rw [mAll,if_neg hk,if_neg (by rw [h];exact Bool.noConfusion)]
 have hgood:((mAll d l (hdP p.l)).2&&(mAll d l (hdP p.r)).2&&(p.kind != 5 || (mAll d l (hdP p.c)).2))=true→mAll (d+1) l p=if p.kind=4 then (qbK ordM (mAll d l (hdP p.l)).1 (mAll d l (hdP p.r)).1,decide ((qbK ordM (mAll d l (hdP p.l)).1 (mAll d l (hdP p.r)).1).length≤1000)) else capM (qbK ordM [] (qdj p.kind p.rel (if p.kind=5 then (mAll d l (hdP p.c)).1 else []) (mAll d l (hdP p.l)).1 (mAll d l (hdP p.r)).1)):=fun h=>by
  rw [mAll,if_neg hk,if_pos h];rfl
 refine qI Tryz.func22 E Tryz.ntmps22 zL fun c hL hQ hDD=>(qd (qb (qt E E zD (q6 3 E E E) E (zX E (zX E (zK ?_))))));refine qd (qb (zX E (zK (qd (qd (qb (zA E (qe E qap E) (zA E (qi E qQ E E E E E) (zA E (qj E E E E) (zK (qo E (fun c0=>?_) (fun c0=>?_))))))))))))
 ·simp only[↓cqA,cqB]at c0
  omega
 simp only[↓cqA,cqB]at c0
 refine qr (qa (qd (qb (zX E (zA E (qe E qaP E) (zA E (qi E qB E E E E E) (zA E (qp E qy E E zO (qba (qdO zO))) ?_)))))));refine zA E (qD E qL E E) ?_
 refine qag (avs:=[_,_]) false E E E zD qb1 E E (qc0 6 86 (ih (hdP p.l) hpl hbl)) E (qbQ .nil) (by rintro r O' ⟨_,rfl⟩;exact frB E) (by rintro h;cases h) ?_
 rintro r O' ⟨rfl,rfl⟩
 refine zX E (zA E (qS E E E) (zA E (qS E E E) (zX E (zX E (zK (qd ?_))))));refine qb (zX E (zA E (qe E qaO E) ?_))
 refine zA E (qi E qB E E E E E) ?_;refine zA E (qp E qy E E zO (qba (qdO zO))) ?_;refine zA E (qD E qL E E) ?_;refine qag (avs:=[_,_]) false E E E zD qb1 E E (qc0 6 87 (ih (hdP p.r) hpr hbr)) E (qbQ .nil) (by rintro r O' ⟨_,rfl⟩;exact frB E) (by rintro h;cases h) ?_
 rintro r O' ⟨rfl,rfl⟩
 refine zX E (zA E (qS E E E) (zA E (qS E E E) (zX E (zX E (zK (qd ?_))))))
 refine qb (zX E (zK (qd (qb (zX E (qc ?_))))));refine qa (qdr ⟨[(3,.ptr 3 0),(6,.imm (.slice none 0 0)),(10,.row 86),(11,bv (mAll d l (hdP p.l)).2),(12,.row 87),(13,bv (mAll d l (hdP p.r)).2),(14,.dat false 4 (mtDs (if p.kind=5 then (mAll d l (hdP p.c)).1 else []))),(15,bv (p.kind != 5 || (mAll d l (hdP p.c)).2))],[(3,.box (lift false (ptD p))),(86,.rowd 55 4 false (mtDs (mAll d l (hdP p.l)).1)),(87,.rowd 55 4 false (mtDs (mAll d l (hdP p.r)).1))]⟩ ?_ ?_)
 ·refine qd (qb (zA E (qe E qap E) (zA E (qi E qQ E E E E E) (zA E (qj E E E E) (zK (qo E (fun c3=>?_) (fun c3=>?_)))))))
  ·simp only[↓cqA,cqB]at c3
   refine qb ?_;refine zX E ?_;refine zA E (qe E qaD E) ?_;refine zA E (qi E qB E E E E E) ?_;refine zA E (qp E qy E E zO (qba (qdO (by have:=hc5.1 (by assumption);omega)))) ?_;refine zA E (qD E qL E E) ?_
   refine qag (avs:=[_,_]) false E E E zD qb1 E E (qc0 6 88 (ih (hdP p.c) hpc (hbc (by assumption)))) E (qbQ .nil) (by rintro r O' ⟨_,rfl⟩;exact frB E) (by rintro h;cases h) ?_
   rintro r O' ⟨rfl,rfl⟩
   refine zX E (zA E (qS E E E) (zA E (qS E E E) (zX E (zX E (qab (qaG (l:=88) E zD (noL hL _) E E) (qc ?_))))))
   exact qaC (qC (zC E (zC E (zC E (zC E (zC E (zC E (SubT.cons (qaw E (by first|(rw [if_pos (show p.kind=5 by assumption)];done)|(rw [if_pos (show p.kind=5 by assumption)];rfl)|(rw [if_neg (show ¬ p.kind=5 by assumption)];rfl))) (SubT.cons (qaw E (by exact qbs (by simp [c3]))) SubT.nil)))))))) (SubO.cons (qU rfl (by rfl)) (SubO.cons (qU E (by rfl)) (SubO.cons (qU E (by rfl)) SubO.nil))) E E (noL' (noL hL) _))
  simp only[↓cqA,cqB]at c3
  refine qbI (qdx (t:=14) 4 false E) (qr ?_)
  exact qaC (qC (zC E (zC E (zC E (zC E (zC E (zC E (SubT.cons (qaw E (by first|(rw [if_pos (show p.kind=5 by assumption)];done)|(rw [if_pos (show p.kind=5 by assumption)];rfl)|(rw [if_neg (show ¬ p.kind=5 by assumption)];rfl))) (SubT.cons (qaw E (by exact qbs (by simp [c3]))) SubT.nil)))))))) (SubO.cons (qU rfl (by rfl)) (SubO.cons (qU E (by rfl)) (SubO.cons (qU E (by rfl)) SubO.nil))) E E (noL' (noL hL) _))
 refine qd (qd (qb (zX E (zA E (qaB E E) (zX E (qE 96 E (fun g96=>?_) (fun g96=>?_)))))))
 ·simp only[↓cqA,cqB]at g96
  refine zY E (zY E (zA E (qk E E E) (zX E (zY E (zY E ?_)))))
  refine zA E (qk E E E) (zK (qa2 E (qd (qb (zX E (zX E ?_))))));refine zK (qn (qm ?_))
  change retQ _ _ _ _ _ _ _
  first
   | (have hm:mAll (d+1) l p=([],false):=by
       first
        | exact hmuch
        | exact hbad (by rw [show (mAll d l (hdP p.l)).2=false by assumption];rfl)
        | exact hbad (by rw [show (mAll d l (hdP p.r)).2=false by assumption,Bool.and_false];rfl)
        | exact hbad (by rw [show (p.kind != 5 || (mAll d l (hdP p.c)).2)=false by assumption,Bool.and_false])
      rw [hm]
      refine retS (qam (t:=4) (l:=6) 55 4 false E E) (retO (O':=[(6,_)]) (.inl E) (qg E (qg E qh)) (SubO.cons E SubO.nil) ?_ ?_ (noL' (noL hL) _) ?_)
      ·rfl
      ·rfl
      exact ⟨rfl,rfl⟩)
   | (rw [hg]
      refine retS (qZ 0 6 (noL hL _) (noL hL _)) (retO (O':=[(6,_)]) (by first|exact .inl E|exact .inr E) (qg E (qg E qh)) (SubO.cons E SubO.nil) ?_ ?_ (noL' (noL hL) _) ?_)
      ·rfl
      ·rfl
      refine ⟨?_,rfl⟩
      first
       | rfl
       | (show AV.tup [.row 6,_]=_
          congr 2
          refine congrArg (fun x=>[x]) (qbs ?_)
          rw [hlr,Bool.eq_iff_iff,decide_eq_true_eq,decide_eq_true_eq]
          omega))
 simp only[↓cqA,cqB]at g96
 refine zZ E (ql (.inl E) E) (zZ E (qaB E E) (zA E (qk E E E) (zX E (qE 100 E (fun g100=>?_) (fun g100=>?_)))))
 ·simp only[↓cqA,cqB]at g100
  refine zY E (zY E (zA E (qk E E E) (zK (qa2 E (qd (qb ?_))))));refine zX E (zX E (zK (qn (qm ?_))))
  change retQ _ _ _ _ _ _ _
  first
   | (have hm:mAll (d+1) l p=([],false):=by
       first
        | exact hmuch
        | exact hbad (by rw [show (mAll d l (hdP p.l)).2=false by assumption];rfl)
        | exact hbad (by rw [show (mAll d l (hdP p.r)).2=false by assumption,Bool.and_false];rfl)
        | exact hbad (by rw [show (p.kind != 5 || (mAll d l (hdP p.c)).2)=false by assumption,Bool.and_false])
      rw [hm]
      refine retS (qam (t:=4) (l:=6) 55 4 false E E) (retO (O':=[(6,_)]) (.inl E) (qg E (qg E qh)) (SubO.cons E SubO.nil) ?_ ?_ (noL' (noL hL) _) ?_)
      ·rfl
      ·rfl
      exact ⟨rfl,rfl⟩)
   | (rw [hg]
      refine retS (qZ 0 6 (noL hL _) (noL hL _)) (retO (O':=[(6,_)]) (by first|exact .inl E|exact .inr E) (qg E (qg E qh)) (SubO.cons E SubO.nil) ?_ ?_ (noL' (noL hL) _) ?_)
      ·rfl
      ·rfl
      refine ⟨?_,rfl⟩
      first
       | rfl
       | (show AV.tup [.row 6,_]=_
          congr 2
          refine congrArg (fun x=>[x]) (qbs ?_)
          rw [hlr,Bool.eq_iff_iff,decide_eq_true_eq,decide_eq_true_eq]
          omega))
 simp only[↓cqA,cqB]at g100
 refine zZ E (ql (.inl E) E) (zZ E (qaB E E) (zA E (qk E E E) (zK (qo E (fun c4=>?_) (fun c4=>?_)))))
 ·simp only[↓cqA,cqB]at c4
  refine qd (qb (zX E (zX E (zK (qn (qm ?_))))))
  change retQ _ _ _ _ _ _ _
  first
   | (have hm:mAll (d+1) l p=([],false):=by
       first
        | exact hmuch
        | exact hbad (by rw [show (mAll d l (hdP p.l)).2=false by assumption];rfl)
        | exact hbad (by rw [show (mAll d l (hdP p.r)).2=false by assumption,Bool.and_false];rfl)
        | exact hbad (by rw [show (p.kind != 5 || (mAll d l (hdP p.c)).2)=false by assumption,Bool.and_false])
      rw [hm]
      refine retS (qam (t:=4) (l:=6) 55 4 false E E) (retO (O':=[(6,_)]) (.inl E) (qg E (qg E qh)) (SubO.cons E SubO.nil) ?_ ?_ (noL' (noL hL) _) ?_)
      ·rfl
      ·rfl
      exact ⟨rfl,rfl⟩)
   | (rw [hg]
      refine retS (qZ 0 6 (noL hL _) (noL hL _)) (retO (O':=[(6,_)]) (by first|exact .inl E|exact .inr E) (qg E (qg E qh)) (SubO.cons E SubO.nil) ?_ ?_ (noL' (noL hL) _) ?_)
      ·rfl
      ·rfl
      refine ⟨?_,rfl⟩
      first
       | rfl
       | (show AV.tup [.row 6,_]=_
          congr 2
          refine congrArg (fun x=>[x]) (qbs ?_)
          rw [hlr,Bool.eq_iff_iff,decide_eq_true_eq,decide_eq_true_eq]
          omega))
 simp only[↓cqA,cqB]at c4
 have hfl:((mAll d l (hdP p.l)).2&&(mAll d l (hdP p.r)).2&&(p.kind != 5 || (mAll d l (hdP p.c)).2))=true:=by rw [show (mAll d l (hdP p.l)).2=true by assumption,show (mAll d l (hdP p.r)).2=true by assumption,show (p.kind != 5 || (mAll d l (hdP p.c)).2)=true by assumption];rfl
 have hg:=hgood hfl
 have hA1:(mAll d l (hdP p.l)).1.length≤1000:=hAl.resolve_right (by rw [show (mAll d l (hdP p.l)).2=true by assumption];exact Bool.noConfusion)
 have hB1:(mAll d l (hdP p.r)).1.length≤1000:=hBl.resolve_right (by rw [show (mAll d l (hdP p.r)).2=true by assumption];exact Bool.noConfusion)
 have hC1:=hCl (by assumption)
 generalize hcc:(if p.kind=5 then (mAll d l (hdP p.c)).1 else [])=cc at*
 refine qr (qa (qd (qd (qb (zA E (qe E qap E) (zA E (qi E qQ E E E E E) (zA E (qj E E E E) ?_)))))));refine zK (qo E (fun c5=>?_) (fun c5=>?_))
 ·simp only[↓cqA,cqB]at c5
  rw [if_pos (show p.kind=4 by assumption)] at hg
  refine qd (qd (qb (zX E (zK (qv (qac ((mAll d l (hdP p.r)).1.length) (fun i=>i≤(mAll d l (hdP p.r)).1.length) (fun i=>⟨[(10,.row 0),(12,.row 87),(16,iv (i:Int))],[(0,.rowd 55 4 false (mtDs (qbK ordM (mAll d l (hdP p.l)).1 ((mAll d l (hdP p.r)).1.take i)))),(87,.rowd 55 4 false (mtDs (mAll d l (hdP p.r)).1))]⟩) zO ?_ (fun i hi hpi=>?_)))))))
  ·exact Sub.trans (qZ 86 0 (noL hL _) (noL hL _)) (qC (zC E (zC E (zC E SubT.nil))) (SubO.cons (qU E (by rfl)) (SubO.cons (qU E (by rfl)) SubO.nil)) E E (noL' (noL hL) _))
  refine qd (qd (qb (zX E (zX E (zA E (qbf E qw E E) (zA E (qj E E E E) (qc ?_)))))));refine qa (qo E (fun c6=>?_) (fun c6=>?_))
  ·simp only[↓cqA,cqB]at c6
   obtain ⟨x,hx⟩:=qM (l:=(mAll d l (hdP p.r)).1) (k:=i) (by omega)
   have hxo:=(hB x (List.mem_of_getElem? hx)).io (by omega)
   have hcur:(qbK ordM (mAll d l (hdP p.l)).1 ((mAll d l (hdP p.r)).1.take i)).length≤1000000:=by
    have:=(qfj (f:=ordM) ((mAll d l (hdP p.r)).1.take i) (mAll d l (hdP p.l)).1).2
    rw [List.length_take] at this;omega
   have hcin:∀ a∈qbK ordM (mAll d l (hdP p.l)).1 ((mAll d l (hdP p.r)).1.take i),a.wf∧∀ x∈a.b,dle 5 x.t:=fun a ha=>by
    rcases qgu _ _ _ ha with h|h
    ·exact (hA a h).io (by omega)
    ·exact (hB a (List.mem_of_mem_take h)).io (by omega)
   refine qr (qa (qd (qv (qb (zX E (zX E (zX E ?_)))))));refine zA E (qcQ E qw E E E zO zO) (zA E (qfH i 0 E qK E E zO (qbR hx) E E E) (qeo ⟨[(118,.row 0),(12,.row 87),(16,iv (i:Int))],(0,.rowd 55 4 false (mtDs (putG ordM (qbK ordM (mAll d l (hdP p.l)).1 ((mAll d l (hdP p.r)).1.take i)) (x))))::[(87,.rowd 55 4 false (mtDs (mAll d l (hdP p.r)).1))]⟩ (fun Q2 K=>?_) ?_))
   ·have hqR:=qkD (qbK ordM (mAll d l (hdP p.l)).1 ((mAll d l (hdP p.r)).1.take i)) hcur hcin (x) hxo.1
    have hqG:=qkE (qbK ordM (mAll d l (hdP p.l)).1 ((mAll d l (hdP p.r)).1.take i)) hcur hcin (x) hxo.1
    generalize hLL:(qbK ordM (mAll d l (hdP p.l)).1 ((mAll d l (hdP p.r)).1.take i))=LL at*
    refine qab (qC (T1:=[(113,.row 0),(117,mtA (x)),(12,.row 87),(16,iv (i:Int))]) (O1:=(0,.rowd 55 4 false (mtDs LL))::[(87,.rowd 55 4 false (mtDs (mAll d l (hdP p.r)).1))]) (zB E (zB E (zB E (zB E SubT.nil)))) (SubO.cons E (SubO.cons E SubO.nil)) E E (noL' (noL hL) _)) ?_
    have h9:=qah LL
    refine qdG (l:=0) E zD (noL hL _) (fun he=>?_) (fun cap h1 h2=>?_)
    ·have hl0:LL=[]:=by
      rw [he] at h9;exact List.eq_nil_of_length_eq_zero h9.symm
     rw [hl0] at K
     refine qag (avs:=[_,_]) false E E E zD qbi E E (qh7 (x) hxo.1) E (qbQ .nil) (by rintro r O' ⟨_,rfl⟩;exact frB E) (by rintro h;cases h) ?_
     rintro r O' ⟨rfl,rfl⟩
     exact qab (Sub.trans (qC (T1:=[(118,.row 9),(12,.row 87),(16,iv (i:Int))]) (O1:=(9,.rowd 55 4 false (mtDs (putG ordM [] (x))))::[(87,.rowd 55 4 false (mtDs (mAll d l (hdP p.r)).1))]) (zB E (zB E (zB E SubT.nil))) (SubO.cons E (SubO.cons E SubO.nil)) E E (noL' (noL hL) _)) (Sub.trans (qZ 9 0 (noL hL _) (noL hL _)) (qC (zB E (zB E (zB E SubT.nil))) (SubO.cons E (SubO.cons E SubO.nil)) E E (noL' (noL hL) _)))) K
    ·by_cases hroom:LL.length+1≤cap
     ·refine qag (avs:=[_,_]) false E E E zD qbi E E (hqR cap zO h2 hroom) E (qbQ (.cons E trivial E .nil)) (by rintro r O' ⟨J,c2,_,⟨_,rfl⟩|⟨_,rfl⟩⟩<;>exact frB E) (by rintro h;cases h) ?_
      rintro r O' ⟨J,c2,hc2,⟨rfl,rfl⟩|⟨rfl,rfl⟩⟩
      ·exact qab (Sub.trans (qbm (l:=0) (cap:=c2) (n:=(mtDs (putG ordM LL (x))).length) (mtDs (putG ordM LL (x))) E (noL hL _) ⟨J,rfl⟩ E (by simp;omega)) (qC (SubT.cons (qaw E (by simp [AV.rp,clV])) (zB rfl (zB rfl SubT.nil))) (SubO.cons rfl (SubO.cons rfl SubO.nil)) rfl rfl (noL' (noL hL) _))) K
      ·exact qab (Sub.trans (qbm (l:=9) (cap:=c2) (n:=(mtDs (putG ordM LL (x))).length) (mtDs (putG ordM LL (x))) E (noL hL _) ⟨J,rfl⟩ E (by simp;omega)) (Sub.trans (qC (T1:=[(118,.row 9),(12,.row 87),(16,iv (i:Int))]) (O1:=(9,.rowd 55 4 false (mtDs (putG ordM LL (x))))::[(87,.rowd 55 4 false (mtDs (mAll d l (hdP p.r)).1))]) (SubT.cons (qaw E (by simp [AV.rp,clV])) (zB rfl (zB rfl SubT.nil))) (SubO.cons rfl (SubO.cons rfl SubO.nil)) rfl rfl (noL' (noL hL) _)) (Sub.trans (qZ 9 0 (noL hL _) (noL hL _)) (qC (zB rfl (zB rfl (zB rfl SubT.nil))) (SubO.cons rfl (SubO.cons rfl SubO.nil)) rfl rfl (noL' (noL hL) _))))) K
     ·refine qag (avs:=[_,_]) false E E E zD qbi E E (hqG cap zO h2 zO) E (qbQ (.cons E trivial E .nil)) (by rintro r O' ⟨J,c2,_,⟨_,rfl⟩|⟨_,rfl⟩⟩<;>exact frB E) (by rintro h;cases h) ?_
      rintro r O' ⟨J,c2,hc2,⟨rfl,rfl⟩|⟨rfl,rfl⟩⟩
      ·exact qab (Sub.trans (qbm (l:=0) (cap:=c2) (n:=(mtDs (putG ordM LL (x))).length) (mtDs (putG ordM LL (x))) E (noL hL _) ⟨J,rfl⟩ E (by simp;omega)) (qC (SubT.cons (qaw E (by simp [AV.rp,clV])) (zB rfl (zB rfl SubT.nil))) (SubO.cons rfl (SubO.cons rfl SubO.nil)) rfl rfl (noL' (noL hL) _))) K
      ·exact qab (Sub.trans (qbm (l:=9) (cap:=c2) (n:=(mtDs (putG ordM LL (x))).length) (mtDs (putG ordM LL (x))) E (noL hL _) ⟨J,rfl⟩ E (by simp;omega)) (Sub.trans (qC (T1:=[(118,.row 9),(12,.row 87),(16,iv (i:Int))]) (O1:=(9,.rowd 55 4 false (mtDs (putG ordM LL (x))))::[(87,.rowd 55 4 false (mtDs (mAll d l (hdP p.r)).1))]) (SubT.cons (qaw E (by simp [AV.rp,clV])) (zB rfl (zB rfl SubT.nil))) (SubO.cons rfl (SubO.cons rfl SubO.nil)) rfl rfl (noL' (noL hL) _)) (Sub.trans (qZ 9 0 (noL hL _) (noL hL _)) (qC (zB rfl (zB rfl (zB rfl SubT.nil))) (SubO.cons rfl (SubO.cons rfl SubO.nil)) rfl rfl (noL' (noL hL) _))))) K
   refine zX E (qc (qR (qa (qb (zX E (zA E (qO E E E zO) (zX E ?_)))))));refine zK ?_;refine ⟨?_,?_,?_⟩
   ·omega
   ·omega
   exact zR hL (zC E (zC E (zC E SubT.nil))) (SubO.cons (qU E (by rw [qas (by assumption),qeM];rfl)) (SubO.cons (qU E (by rfl)) SubO.nil))
  simp only[↓cqA,cqB]at c6
  have hall:(mAll d l (hdP p.r)).1.take i=(mAll d l (hdP p.r)).1:=List.take_of_length_le (by omega)
  have hlr:=qah (qbK ordM (mAll d l (hdP p.l)).1 (mAll d l (hdP p.r)).1)
  rw [hall]
  refine qV (qq (qq (qad ?_)));refine qa (qd (qb (zX E (zX E (zA E (qbf E qw E E) (zA E (qj E E E E) (zX E (zX E (zK (qn (qm ?_)))))))))))
  change retQ _ _ _ _ _ _ _
  first
   | (have hm:mAll (d+1) l p=([],false):=by
       first
        | exact hmuch
        | exact hbad (by rw [show (mAll d l (hdP p.l)).2=false by assumption];rfl)
        | exact hbad (by rw [show (mAll d l (hdP p.r)).2=false by assumption,Bool.and_false];rfl)
        | exact hbad (by rw [show (p.kind != 5 || (mAll d l (hdP p.c)).2)=false by assumption,Bool.and_false])
      rw [hm]
      refine retS (qam (t:=4) (l:=6) 55 4 false E E) (retO (O':=[(6,_)]) (.inl E) (qg E (qg E qh)) (SubO.cons E SubO.nil) ?_ ?_ (noL' (noL hL) _) ?_)
      ·rfl
      ·rfl
      exact ⟨rfl,rfl⟩)
   | (rw [hg]
      refine retS (qZ 0 6 (noL hL _) (noL hL _)) (retO (O':=[(6,_)]) (by first|exact .inl E|exact .inr E) (qg E (qg E qh)) (SubO.cons E SubO.nil) ?_ ?_ (noL' (noL hL) _) ?_)
      ·rfl
      ·rfl
      refine ⟨?_,rfl⟩
      first
       | rfl
       | (show AV.tup [.row 6,_]=_
          congr 2
          refine congrArg (fun x=>[x]) (qbs ?_)
          rw [hlr,Bool.eq_iff_iff,decide_eq_true_eq,decide_eq_true_eq]
          omega))
 simp only[↓cqA,cqB]at c5
 rw [if_neg (show ¬ p.kind=4 by assumption)] at hg
 refine qr (qa (qd (qd (qb (zX E (zK ?_))))));refine qv ?_
 refine qac ((mAll d l (hdP p.l)).1.length) (fun i=>i≤(mAll d l (hdP p.l)).1.length∧(qbK ordM [] (qdj p.kind p.rel cc ((mAll d l (hdP p.l)).1.take i) (mAll d l (hdP p.r)).1)).length≤1000) (fun i=>⟨[(3,.ptr 3 0),(6,.row 0),(10,.row 86),(12,.row 87),(14,.dat false 4 (mtDs cc)),(17,iv (i:Int))],[(0,.rowd 55 4 false (mtDs (qbK ordM [] (qdj p.kind p.rel cc ((mAll d l (hdP p.l)).1.take i) (mAll d l (hdP p.r)).1)))),(3,.box (lift false (ptD p))),(86,.rowd 55 4 false (mtDs (mAll d l (hdP p.l)).1)),(87,.rowd 55 4 false (mtDs (mAll d l (hdP p.r)).1))]⟩) (⟨by omega,by simp [qdj,qbK]⟩) ?_ (fun i hi hpi=>?_)
 ·exact Sub.trans (qam (t:=6) (l:=0) 55 4 false E E) (qC (zC E (zC E (zC E (zC E (zC E (zC E SubT.nil)))))) (SubO.cons (qU E (by rfl)) (SubO.cons (qU E (by rfl)) (SubO.cons (qU E (by rfl)) (SubO.cons (qU E (by rfl)) SubO.nil)))) E E (noL' (noL hL) _))
 refine qd (qd (qb (zX E (zX E (zA E (qbf E qw E E) (zA E (qj E E E E) (qc ?_)))))));refine qa (qo E (fun c7=>?_) (fun c7=>?_))
 ·simp only[↓cqA,cqB]at c7
  obtain ⟨a,ha⟩:=qM (l:=(mAll d l (hdP p.l)).1) (k:=i) (by omega)
  have hao:=hA a (List.mem_of_getElem? ha)
  have hft:=ql4 p.kind p.rel cc (B:=(mAll d l (hdP p.r)).1) ha
  refine qr (qa (qd (qv (qd (qb (zX E (qc ?_)))))));refine qa (qv ?_)
  refine qac ((mAll d l (hdP p.r)).1.length) (fun j=>j≤(mAll d l (hdP p.r)).1.length∧(qbK ordM [] (qdj p.kind p.rel cc ((mAll d l (hdP p.l)).1.take i) (mAll d l (hdP p.r)).1++((mAll d l (hdP p.r)).1.take j).filterMap (qb0 p.kind p.rel cc a))).length≤1000) (fun j=>⟨[(3,.ptr 3 0),(6,.row 0),(10,.row 86),(12,.row 87),(14,.dat false 4 (mtDs cc)),(17,iv (i:Int)),(18,iv (j:Int))],[(0,.rowd 55 4 false (mtDs (qbK ordM [] (qdj p.kind p.rel cc ((mAll d l (hdP p.l)).1.take i) (mAll d l (hdP p.r)).1++((mAll d l (hdP p.r)).1.take j).filterMap (qb0 p.kind p.rel cc a))))),(3,.box (lift false (ptD p))),(86,.rowd 55 4 false (mtDs (mAll d l (hdP p.l)).1)),(87,.rowd 55 4 false (mtDs (mAll d l (hdP p.r)).1))]⟩) (⟨by omega,by simpa using hpi.2⟩) ?_ (fun j hj hpj=>?_)
  ·exact zR hL (zC E (zC E (zC E (zC E (zC E (zC E (zC E SubT.nil))))))) (SubO.cons (qU E (by rw [List.take_zero,List.filterMap_nil,List.append_nil])) (SubO.cons (qU rfl (by rfl)) (SubO.cons (qU E (by rfl)) (SubO.cons (qU E (by rfl)) SubO.nil))))
  refine qd (qd (qb (zX E (zX E (zA E (qbf E qw E E) (zA E (qj E E E E) (qc ?_)))))));refine qa (qo E (fun c8=>?_) (fun c8=>?_))
  ·simp only[↓cqA,cqB]at c8
   obtain ⟨b,hbb⟩:=qM (l:=(mAll d l (hdP p.r)).1) (k:=j) (by omega)
   have hbo:=hB b (List.mem_of_getElem? hbb)
   have hft2:=qeH (qb0 p.kind p.rel cc a) hbb
   have hcin:∀ x∈qbK ordM [] (qdj p.kind p.rel cc ((mAll d l (hdP p.l)).1.take i) (mAll d l (hdP p.r)).1++((mAll d l (hdP p.r)).1.take j).filterMap (qb0 p.kind p.rel cc a)),x.wf∧∀ y∈x.b,dle 5 y.t:=fun x hx=>by
    rcases qgu _ _ _ hx with h|h
    ·cases h
    ·rcases List.mem_append.1 h with h|h
     ·exact (qiP (fun y hy=>hA y (List.mem_of_mem_take hy)) hB x h).io (by omega)
     ·obtain ⟨y,hy,h⟩:=List.mem_filterMap.1 h
      exact (qkb hao (hB y (List.mem_of_mem_take hy)) h).io zO
   refine qr (qa (qd (qv (qd (qX 16 mixed E E E E (zU E (qF E qL E E E E) (zU E (ql (.inl E) E) ?_)))))));refine zU E (ql (.inl E) E) (zU E (qcQ E qw E E E zO zO) (zU E (qfH i 0 E qK E E zO (qbR ha) E E E) (zU E (ql (.inl E) E) (zU E (ql (.inl E) E) (zU E (qcQ E qw E E E zO zO) (zU E (qfH j 0 E qK E E zO (qbR hbb) E E E) (zU E (ql (.inl E) E) ?_)))))))
   refine zU E (qai (avs:=[_,_,_,_]) false E qgJ E E (qsh p (n:=2 ^ d) (k:=2 ^ d) (q:=2 ^ d) zO zO a b hao hbo cc hCC zO hrel) (fun _=>rfl) E) (zU E (ql (.inl E) E) (zU E (qS E E E) ?_))
   refine zU E (qS E E E) (qhr E zD (.run E (qat 19 E qao E)) (MGo_un E E (qqN E E qK E E E E E E E E E) (qaq ⟨rfl,rfl,?_⟩)));refine zX E (zK (qd (qd (qb (zX E (zK (qo E (fun c9=>?_) (fun c9=>?_))))))))
   ·obtain ⟨m,hj⟩:=Option.isSome_iff_exists.1 c9
    have hmo:=(qkb hao hbo hj).io (by omega)
    rw [hj] at hft2
    rw [hj]
    have hlst:qbK ordM [] (qdj p.kind p.rel cc ((mAll d l (hdP p.l)).1.take i) (mAll d l (hdP p.r)).1++((mAll d l (hdP p.r)).1.take (j+1)).filterMap (qb0 p.kind p.rel cc a))=putG ordM (qbK ordM [] (qdj p.kind p.rel cc ((mAll d l (hdP p.l)).1.take i) (mAll d l (hdP p.r)).1++((mAll d l (hdP p.r)).1.take j).filterMap (qb0 p.kind p.rel cc a))) m:=by
     rw [hft2,← List.append_assoc,qeM];rfl
    refine qb (zX E (zA E (qF E qK E E E E) (qeo ⟨[(152,.row 0),(3,.ptr 3 0),(10,.row 86),(12,.row 87),(14,.dat false 4 (mtDs cc)),(17,iv (i:Int)),(18,iv (j:Int))],(0,.rowd 55 4 false (mtDs (putG ordM (qbK ordM [] (qdj p.kind p.rel cc ((mAll d l (hdP p.l)).1.take i) (mAll d l (hdP p.r)).1++((mAll d l (hdP p.r)).1.take j).filterMap (qb0 p.kind p.rel cc a))) (m))))::[(3,.box (lift false (ptD p))),(86,.rowd 55 4 false (mtDs (mAll d l (hdP p.l)).1)),(87,.rowd 55 4 false (mtDs (mAll d l (hdP p.r)).1))]⟩ (fun Q2 K=>?_) ?_)))
    ·have hqR:=qkD (qbK ordM [] (qdj p.kind p.rel cc ((mAll d l (hdP p.l)).1.take i) (mAll d l (hdP p.r)).1++((mAll d l (hdP p.r)).1.take j).filterMap (qb0 p.kind p.rel cc a))) (by omega) hcin (m) hmo.1
     have hqG:=qkE (qbK ordM [] (qdj p.kind p.rel cc ((mAll d l (hdP p.l)).1.take i) (mAll d l (hdP p.r)).1++((mAll d l (hdP p.r)).1.take j).filterMap (qb0 p.kind p.rel cc a))) (by omega) hcin (m) hmo.1
     generalize hLL:(qbK ordM [] (qdj p.kind p.rel cc ((mAll d l (hdP p.l)).1.take i) (mAll d l (hdP p.r)).1++((mAll d l (hdP p.r)).1.take j).filterMap (qb0 p.kind p.rel cc a)))=LL at*
     refine qab (qC (T1:=[(150,.row 0),(151,mtA (m)),(3,.ptr 3 0),(10,.row 86),(12,.row 87),(14,.dat false 4 (mtDs cc)),(17,iv (i:Int)),(18,iv (j:Int))]) (O1:=(0,.rowd 55 4 false (mtDs LL))::[(3,.box (lift false (ptD p))),(86,.rowd 55 4 false (mtDs (mAll d l (hdP p.l)).1)),(87,.rowd 55 4 false (mtDs (mAll d l (hdP p.r)).1))]) (zB E (zB E (zB E (zB E (zB E (zB E (zB E (zB E SubT.nil)))))))) (SubO.cons E (SubO.cons E (SubO.cons E (SubO.cons E SubO.nil)))) E E (noL' (noL hL) _)) ?_
     have h9:=qah LL
     refine qdG (l:=0) E zD (noL hL _) (fun he=>?_) (fun cap h1 h2=>?_)
     ·have hl0:LL=[]:=by
       rw [he] at h9;exact List.eq_nil_of_length_eq_zero h9.symm
      rw [hl0] at K
      refine qag (avs:=[_,_]) false E E E zD qbi E E (qh7 (m) hmo.1) E (qbQ .nil) (by rintro r O' ⟨_,rfl⟩;exact frB E) (by rintro h;cases h) ?_
      rintro r O' ⟨rfl,rfl⟩
      exact qab (Sub.trans (qC (T1:=[(152,.row 9),(3,.ptr 3 0),(10,.row 86),(12,.row 87),(14,.dat false 4 (mtDs cc)),(17,iv (i:Int)),(18,iv (j:Int))]) (O1:=(9,.rowd 55 4 false (mtDs (putG ordM [] (m))))::[(3,.box (lift false (ptD p))),(86,.rowd 55 4 false (mtDs (mAll d l (hdP p.l)).1)),(87,.rowd 55 4 false (mtDs (mAll d l (hdP p.r)).1))]) (zB E (zB E (zB E (zB E (zB E (zB E (zB E SubT.nil))))))) (SubO.cons E (SubO.cons E (SubO.cons E (SubO.cons E SubO.nil)))) E E (noL' (noL hL) _)) (Sub.trans (qZ 9 0 (noL hL _) (noL hL _)) (qC (zB E (zB E (zB E (zB E (zB E (zB E (zB E SubT.nil))))))) (SubO.cons E (SubO.cons E (SubO.cons E (SubO.cons E SubO.nil)))) E E (noL' (noL hL) _)))) K
     ·by_cases hroom:LL.length+1≤cap
      ·refine qag (avs:=[_,_]) false E E E zD qbi E E (hqR cap zO h2 hroom) E (qbQ (.cons E trivial E .nil)) (by rintro r O' ⟨J,c2,_,⟨_,rfl⟩|⟨_,rfl⟩⟩<;>exact frB E) (by rintro h;cases h) ?_
       rintro r O' ⟨J,c2,hc2,⟨rfl,rfl⟩|⟨rfl,rfl⟩⟩
       ·exact qab (Sub.trans (qbm (l:=0) (cap:=c2) (n:=(mtDs (putG ordM LL (m))).length) (mtDs (putG ordM LL (m))) E (noL hL _) ⟨J,rfl⟩ E (by simp;omega)) (qC (SubT.cons (qaw E (by simp [AV.rp,clV])) (zB rfl (zB rfl (zB rfl (zB rfl (zB rfl (zB rfl SubT.nil))))))) (SubO.cons rfl (SubO.cons rfl (SubO.cons rfl (SubO.cons rfl SubO.nil)))) rfl rfl (noL' (noL hL) _))) K
       ·exact qab (Sub.trans (qbm (l:=9) (cap:=c2) (n:=(mtDs (putG ordM LL (m))).length) (mtDs (putG ordM LL (m))) E (noL hL _) ⟨J,rfl⟩ E (by simp;omega)) (Sub.trans (qC (T1:=[(152,.row 9),(3,.ptr 3 0),(10,.row 86),(12,.row 87),(14,.dat false 4 (mtDs cc)),(17,iv (i:Int)),(18,iv (j:Int))]) (O1:=(9,.rowd 55 4 false (mtDs (putG ordM LL (m))))::[(3,.box (lift false (ptD p))),(86,.rowd 55 4 false (mtDs (mAll d l (hdP p.l)).1)),(87,.rowd 55 4 false (mtDs (mAll d l (hdP p.r)).1))]) (SubT.cons (qaw E (by simp [AV.rp,clV])) (zB rfl (zB rfl (zB rfl (zB rfl (zB rfl (zB rfl SubT.nil))))))) (SubO.cons rfl (SubO.cons rfl (SubO.cons rfl (SubO.cons rfl SubO.nil)))) rfl rfl (noL' (noL hL) _)) (Sub.trans (qZ 9 0 (noL hL _) (noL hL _)) (qC (zB rfl (zB rfl (zB rfl (zB rfl (zB rfl (zB rfl (zB rfl SubT.nil))))))) (SubO.cons rfl (SubO.cons rfl (SubO.cons rfl (SubO.cons rfl SubO.nil)))) rfl rfl (noL' (noL hL) _))))) K
      ·refine qag (avs:=[_,_]) false E E E zD qbi E E (hqG cap zO h2 zO) E (qbQ (.cons E trivial E .nil)) (by rintro r O' ⟨J,c2,_,⟨_,rfl⟩|⟨_,rfl⟩⟩<;>exact frB E) (by rintro h;cases h) ?_
       rintro r O' ⟨J,c2,hc2,⟨rfl,rfl⟩|⟨rfl,rfl⟩⟩
       ·exact qab (Sub.trans (qbm (l:=0) (cap:=c2) (n:=(mtDs (putG ordM LL (m))).length) (mtDs (putG ordM LL (m))) E (noL hL _) ⟨J,rfl⟩ E (by simp;omega)) (qC (SubT.cons (qaw E (by simp [AV.rp,clV])) (zB rfl (zB rfl (zB rfl (zB rfl (zB rfl (zB rfl SubT.nil))))))) (SubO.cons rfl (SubO.cons rfl (SubO.cons rfl (SubO.cons rfl SubO.nil)))) rfl rfl (noL' (noL hL) _))) K
       ·exact qab (Sub.trans (qbm (l:=9) (cap:=c2) (n:=(mtDs (putG ordM LL (m))).length) (mtDs (putG ordM LL (m))) E (noL hL _) ⟨J,rfl⟩ E (by simp;omega)) (Sub.trans (qC (T1:=[(152,.row 9),(3,.ptr 3 0),(10,.row 86),(12,.row 87),(14,.dat false 4 (mtDs cc)),(17,iv (i:Int)),(18,iv (j:Int))]) (O1:=(9,.rowd 55 4 false (mtDs (putG ordM LL (m))))::[(3,.box (lift false (ptD p))),(86,.rowd 55 4 false (mtDs (mAll d l (hdP p.l)).1)),(87,.rowd 55 4 false (mtDs (mAll d l (hdP p.r)).1))]) (SubT.cons (qaw E (by simp [AV.rp,clV])) (zB rfl (zB rfl (zB rfl (zB rfl (zB rfl (zB rfl SubT.nil))))))) (SubO.cons rfl (SubO.cons rfl (SubO.cons rfl (SubO.cons rfl SubO.nil)))) rfl rfl (noL' (noL hL) _)) (Sub.trans (qZ 9 0 (noL hL _) (noL hL _)) (qC (zB rfl (zB rfl (zB rfl (zB rfl (zB rfl (zB rfl (zB rfl SubT.nil))))))) (SubO.cons rfl (SubO.cons rfl (SubO.cons rfl (SubO.cons rfl SubO.nil)))) rfl rfl (noL' (noL hL) _))))) K
    refine zX E (zK (qd (qb (zX E (zA E (qbf E qw E E) (zA E (qj E E E E) ?_))))));refine zK (qo E (fun c10=>?_) (fun c10=>?_))
    ·simp only[↓cqA,cqB]at c10
     have hmuch:mAll (d+1) l p=([],false):=by
      obtain ⟨rest,hrest⟩:=qkX p.kind p.rel cc (B:=(mAll d l (hdP p.r)).1) ha (j+1)
      have h1:=(qfj (f:=ordM) rest (qbK ordM [] (qdj p.kind p.rel cc ((mAll d l (hdP p.l)).1.take i) (mAll d l (hdP p.r)).1++((mAll d l (hdP p.r)).1.take (j+1)).filterMap (qb0 p.kind p.rel cc a)))).1
      rw [← qeM,← hrest] at h1
      rw [hlst] at h1
      simp only [qah] at c10
      rw [hg,capM,if_neg (by omega)]
     refine qd (qb (zX E (zX E (zK (qn (qP (qm (qm (qP (qP (qm (qm (qP (qm ?_))))))))))))))
     change retQ _ _ _ _ _ _ _
     first
      | (have hm:mAll (d+1) l p=([],false):=by
          first
           | exact hmuch
           | exact hbad (by rw [show (mAll d l (hdP p.l)).2=false by assumption];rfl)
           | exact hbad (by rw [show (mAll d l (hdP p.r)).2=false by assumption,Bool.and_false];rfl)
           | exact hbad (by rw [show (p.kind != 5 || (mAll d l (hdP p.c)).2)=false by assumption,Bool.and_false])
         rw [hm]
         refine retS (qam (t:=4) (l:=6) 55 4 false E E) (retO (O':=[(6,_)]) (.inl E) (qg E (qg E qh)) (SubO.cons E SubO.nil) ?_ ?_ (noL' (noL hL) _) ?_)
         ·rfl
         ·rfl
         exact ⟨rfl,rfl⟩)
      | (rw [hg]
         refine retS (qZ 0 6 (noL hL _) (noL hL _)) (retO (O':=[(6,_)]) (by first|exact .inl E|exact .inr E) (qg E (qg E qh)) (SubO.cons E SubO.nil) ?_ ?_ (noL' (noL hL) _) ?_)
         ·rfl
         ·rfl
         refine ⟨?_,rfl⟩
         first
          | rfl
          | (show AV.tup [.row 6,_]=_
             congr 2
             refine congrArg (fun x=>[x]) (qbs ?_)
             rw [hlr,Bool.eq_iff_iff,decide_eq_true_eq,decide_eq_true_eq]
             omega))
    simp only[↓cqA,cqB]at c10
    refine qr (qR (qa (qb (zX E (zA E (qO E E E zO) (zX E (qc ?_)))))));refine qa ?_;refine ⟨?_,?_,?_⟩
    ·omega
    ·simp only [qah] at c10
     exact ⟨by omega,by rw [hlst];omega⟩
    exact zR hL (zC E (zC E (zC E (zC E (zC E (zC E (zC E SubT.nil))))))) (SubO.cons (qU E (by rw [hlst])) (SubO.cons (qU rfl (by rfl)) (SubO.cons (qU E (by rfl)) (SubO.cons (qU E (by rfl)) SubO.nil))))
   have hj:qb0 p.kind p.rel cc a b=none:=by
    cases h:qb0 p.kind p.rel cc a b with
    | none=>rfl
    | some m=>rw [h] at c9;cases c9
   rw [hj] at hft2
   have hlst:qbK ordM [] (qdj p.kind p.rel cc ((mAll d l (hdP p.l)).1.take i) (mAll d l (hdP p.r)).1++((mAll d l (hdP p.r)).1.take (j+1)).filterMap (qb0 p.kind p.rel cc a))=qbK ordM [] (qdj p.kind p.rel cc ((mAll d l (hdP p.l)).1.take i) (mAll d l (hdP p.r)).1++((mAll d l (hdP p.r)).1.take j).filterMap (qb0 p.kind p.rel cc a)):=by
    rw [hft2,Option.toList_none,List.append_nil]
   refine qr (qa (qd (qb (zX E (zA E (qbf E qw E E) (zA E (qj E E E E) (qc ?_)))))));refine qa (qo E (fun c10=>?_) (fun c10=>?_))
   ·simp only[↓cqA,cqB]at c10
    have hmuch:mAll (d+1) l p=([],false):=by
     obtain ⟨rest,hrest⟩:=qkX p.kind p.rel cc (B:=(mAll d l (hdP p.r)).1) ha (j+1)
     have h1:=(qfj (f:=ordM) rest (qbK ordM [] (qdj p.kind p.rel cc ((mAll d l (hdP p.l)).1.take i) (mAll d l (hdP p.r)).1++((mAll d l (hdP p.r)).1.take (j+1)).filterMap (qb0 p.kind p.rel cc a)))).1
     rw [← qeM,← hrest] at h1
     rw [hlst] at h1
     simp only [qah] at c10
     rw [hg,capM,if_neg (by omega)]
    refine qd (qb (zX E (zX E (zK (qn (qP (qm (qm (qP (qP (qm (qm (qP (qm ?_))))))))))))))
    change retQ _ _ _ _ _ _ _
    first
     | (have hm:mAll (d+1) l p=([],false):=by
         first
          | exact hmuch
          | exact hbad (by rw [show (mAll d l (hdP p.l)).2=false by assumption];rfl)
          | exact hbad (by rw [show (mAll d l (hdP p.r)).2=false by assumption,Bool.and_false];rfl)
          | exact hbad (by rw [show (p.kind != 5 || (mAll d l (hdP p.c)).2)=false by assumption,Bool.and_false])
        rw [hm]
        refine retS (qam (t:=4) (l:=6) 55 4 false E E) (retO (O':=[(6,_)]) (.inl E) (qg E (qg E qh)) (SubO.cons E SubO.nil) ?_ ?_ (noL' (noL hL) _) ?_)
        ·rfl
        ·rfl
        exact ⟨rfl,rfl⟩)
     | (rw [hg]
        refine retS (qZ 0 6 (noL hL _) (noL hL _)) (retO (O':=[(6,_)]) (by first|exact .inl E|exact .inr E) (qg E (qg E qh)) (SubO.cons E SubO.nil) ?_ ?_ (noL' (noL hL) _) ?_)
        ·rfl
        ·rfl
        refine ⟨?_,rfl⟩
        first
         | rfl
         | (show AV.tup [.row 6,_]=_
            congr 2
            refine congrArg (fun x=>[x]) (qbs ?_)
            rw [hlr,Bool.eq_iff_iff,decide_eq_true_eq,decide_eq_true_eq]
            omega))
   simp only[↓cqA,cqB]at c10
   refine qr (qR (qa (qb (zX E (zA E (qO E E E zO) (zX E (qc ?_)))))));refine qa ?_;refine ⟨?_,?_,?_⟩
   ·omega
   ·simp only [qah] at c10
    exact ⟨by omega,by rw [hlst];omega⟩
   exact zR hL (zC E (zC E (zC E (zC E (zC E (zC E (zC E SubT.nil))))))) (SubO.cons (qU E (by rw [hlst])) (SubO.cons (qU rfl (by rfl)) (SubO.cons (qU E (by rfl)) (SubO.cons (qU E (by rfl)) SubO.nil))))
  simp only[↓cqA,cqB]at c8
  refine qV (qq (qq (qad ?_)));refine qR (qa (qb (zX E (zA E (qO E E E zO) (zX E (zK ?_))))));refine ⟨?_,?_,?_⟩
  ·omega
  ·have h:=hpj.2
   rw [List.take_of_length_le (l:=(mAll d l (hdP p.r)).1) (by omega),← hft] at h
   exact ⟨by omega,h⟩
  exact zR hL (zC E (zC E (zC E (zC E (zC E (zC E SubT.nil)))))) (SubO.cons (qU E (by rw [hft,List.take_of_length_le (l:=(mAll d l (hdP p.r)).1) zO])) (SubO.cons (qU rfl (by rfl)) (SubO.cons (qU E (by rfl)) (SubO.cons (qU E (by rfl)) SubO.nil))))
 simp only[↓cqA,cqB]at c7
 have hall:(mAll d l (hdP p.l)).1.take i=(mAll d l (hdP p.l)).1:=List.take_of_length_le (by omega)
 have hpi2:=hpi.2
 rw [hall] at hpi2
 rw [capM,if_pos hpi2] at hg
 rw [hall]
 refine qV (qq (qq (qad ?_)));refine qa (qd (qb (zX E (zX E (zX E (zK ?_))))));refine qn ?_
 change retQ _ _ _ _ _ _ _
 first
  | (have hm:mAll (d+1) l p=([],false):=by
      first
       | exact hmuch
       | exact hbad (by rw [show (mAll d l (hdP p.l)).2=false by assumption];rfl)
       | exact hbad (by rw [show (mAll d l (hdP p.r)).2=false by assumption,Bool.and_false];rfl)
       | exact hbad (by rw [show (p.kind != 5 || (mAll d l (hdP p.c)).2)=false by assumption,Bool.and_false])
     rw [hm]
     refine retS (qam (t:=4) (l:=6) 55 4 false E E) (retO (O':=[(6,_)]) (.inl E) (qg E (qg E qh)) (SubO.cons E SubO.nil) ?_ ?_ (noL' (noL hL) _) ?_)
     ·rfl
     ·rfl
     exact ⟨rfl,rfl⟩)
  | (rw [hg]
     refine retS (qZ 0 6 (noL hL _) (noL hL _)) (retO (O':=[(6,_)]) (by first|exact .inl E|exact .inr E) (qg E (qg E qh)) (SubO.cons E SubO.nil) ?_ ?_ (noL' (noL hL) _) ?_)
     ·rfl
     ·rfl
     refine ⟨?_,rfl⟩
     first
      | rfl
      | (show AV.tup [.row 6,_]=_
         congr 2
         refine congrArg (fun x=>[x]) (qbs ?_)
         rw [hlr,Bool.eq_iff_iff,decide_eq_true_eq,decide_eq_true_eq]
         omega))
theorem qmD {l:List Kp}(hl:qhK l)(hw:∀ k∈l,k.wf):∀ d:Nat,d≤10→AllC l d
 | 0,_=>fun p _ h=>by rw [patB] at h;cases h
 | d+1,hd=>fun p hp hb=>by
   by_cases hk:p.kind=1
   ·exact qrT hl hw d p hp hb hk
   ·exact qrU hl hw d (by omega) p hp hb hk (qmD hl hw d (by omega))
end Go.Proofs.YtpgceiijoedppaaGreat