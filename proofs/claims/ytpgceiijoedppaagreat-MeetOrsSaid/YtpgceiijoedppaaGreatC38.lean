/- Part 38 of the proof: Ng. -/
import Derived.Test.YtpgceiijoedppaaGreatC30
import Derived.Test.YtpgceiijoedppaaGreatC31
import Derived.Test.YtpgceiijoedppaaGreatC33
import Derived.Test.YtpgceiijoedppaaGreatC37
set_option linter.unusedVariables false
set_option linter.unusedSimpArgs false
set_option maxRecDepth 8000
namespace Go.Proofs.YtpgceiijoedppaaGreat
open Go
variable {l:List Pt}{t u:Pt}
def MayPC (d:Nat):Prop:=∀ (e:Int),e=d→∀ (t:Pt) (n:Int),t.wf→0≤n→n≤24→AC Tryz.prog 166 [ptA false t,iv e,.ptr 0 0] [(0,.box [iv n])] (fun r O=>r=bv (qc2 d t n).1∧O=[(0,.box [iv (qc2 d t n).2])])
theorem mayP1_ok (d:Nat)(hd:d<8)(ih:MayPC d)(e:Int)(he:e=d+1)(t:Pt)(n:Int)(ht:t.wf)(h0:0≤n)(h1:n≤24):AC Tryz.prog 230 [ptA false t,.ptr 4 0,.ptr 5 0] [(4,.box [iv e]),(5,.box [.ptr 0 0]),(0,.box [iv n])]
  (fun r O=>r=bv (!(qc2 d t n).1)∧O=[(4,.box [iv e]),(5,.box [.ptr 0 0]),(0,.box [iv (qc2 d t n).2])]):=by
 refine qI Tryz.func230 E Tryz.ntmps230 zL fun c hL hQ hDD=>(qd (qb (qt E E zD (q6 3 E E E) E (zX E (zK (qd ?_))))));refine qb (zA E (qF E qL E E E E) (zA E (qi E qQ E E E E E) ?_))
 refine zA E (qa3 E E E zO) ?_;refine zA E (qi E qgl E E E E E) ?_;refine qag (avs:=[_,_,_]) true E E E zD qk5 E E (ih (e-1) zO t n ht h0 h1) E (qbQ (.cons E trivial E .nil)) (by rintro r O' ⟨rfl,rfl⟩ l hl;exact .inl ((qdN (by rfl) l).trans hl)) (by rintro-r O' ⟨rfl,rfl⟩;exact ⟨rfl,rfl⟩) ?_
 rintro r O' ⟨rfl,rfl⟩
 refine zA E (qaB E E) (zX E (zK (qn ?_)))
 change retQ _ _ _ _ _ _ _
 refine retO (O':=[(4,_),(5,_),(0,_)]) (.inl E) (qg E qh) (SubO.cons E (SubO.cons E (SubO.cons E SubO.nil))) ?_ ?_ ?_ ?_
 ·rfl
 ·rfl
 ·exact LO hL E
 ·exact ⟨rfl,rfl⟩
theorem qmJ {D:Nat}{n m:Int}{b:Bool}(h:qc2 D t n=(b,m)):resV [bv b]=bv (qc2 D t n).1∧[(0,Ob.box [iv m])]=[(0,Ob.box [iv (qc2 D t n).2])]:=by rw [h];exact ⟨rfl,rfl⟩
theorem qrb (hf:qbV t=true)(hk:¬ t.kind=1):t.l.length=1∧t.r.length=1∧t.c.length≤1:=by
 rw [qbV,if_neg hk] at hf
 split at hf
 ·simp only [Bool.and_eq_true,decide_eq_true_eq] at hf
  obtain ⟨⟨⟨⟨h1,h2⟩,h3⟩,_⟩,_⟩:=hf
  exact ⟨h1,h2,by rw [h3];split<;>omega⟩
 ·cases hf
theorem mayP_ok:∀ d:Nat,d≤8→MayPC d:=by
  intro d
  induction d with
  | zero=>
    intro hd e he t n ht h0 h1
    refine qI Tryz.func166 E Tryz.ntmps166 zL fun c hL hQ hDD=>(qd (qb (qt E E zD (q6 3 E E E) E (qt E E zD (q6 4 E E E) E (qt E E zD (q6 5 E E E) E (zX E (qc ?_)))))));refine qa (qd (qd (qb (zA E (qi E qQ E E E E E) (zA E (qj E E E E) (zX E (qE 9 E (fun g9=>?_) (fun g9=>?_))))))))
    · simp only[↓cqA,cqB]at g9
      refine zY E (zY E (zY E (zA E (qk E E E) (zK (qa2 E (qd ?_))))));refine qb (zX E (zK (qn (qm ?_))))
      change retQ _ _ _ _ _ _ _
      refine retO (O':=[(0,_)]) (.inl E) (qg E qh) (SubO.cons E SubO.nil) ?_ ?_ ?_ ?_
      · rfl
      · rfl
      · exact LO hL E
      exact qmJ (by simp [qc2])
    simp only[↓cqA,cqB]at g9
    omega
  | succ d ih=>
    intro hd e he t n ht h0 h1
    obtain ⟨hlL,hwL⟩:=ht.2.2.2.1
    obtain ⟨hlR,hwR⟩:=ht.2.2.2.2.1
    obtain ⟨hlC,hwC⟩:=ht.2.2.2.2.2
    have hwA:∀ u∈t.l++t.r++t.c,u.wf:=fun u hu=>by
      rcases List.mem_append.1 hu with hu|hu
      · rcases List.mem_append.1 hu with hu|hu
        · exact Pt.wfs_iff.1 hwL u hu
        · exact Pt.wfs_iff.1 hwR u hu
      · exact Pt.wfs_iff.1 hwC u hu
    refine qI Tryz.func166 E Tryz.ntmps166 zL fun c hL hQ hDD=>(qd (qb (qt E E zD (q6 3 E E E) E (qt E E zD (q6 4 E E E) E (qt E E zD (q6 5 E E E) E (zX E (qc ?_)))))));refine qa (qd (qd (qb (zA E (qi E qQ E E E E E) (zA E (qj E E E E) (zX E (qE 9 E (fun g9=>?_) (fun g9=>?_))))))))
    · simp only[↓cqA,cqB]at g9
      omega
    simp only[↓cqA,cqB]at g9
    refine zZ E (qF E qL E E E E) (zZ E (qai (avs:=[_]) true E qlw E E (qsq t ht) (fun _=>rfl) E) (zZ E (qaB E E) (zA E (qk E E E) (zK (qo E (fun c0=>?_) (fun c0=>?_))))))
    · simp only[↓cqA,cqB]at c0
      refine qd (qb (zX E (zK (qn (qm ?_)))))
      change retQ _ _ _ _ _ _ _
      refine retO (O':=[(0,_)]) (.inl E) (qg E qh) (SubO.cons E SubO.nil) ?_ ?_ ?_ ?_
      · rfl
      · rfl
      · exact LO hL E
      refine qmJ ?_
      first
        | (rw [qc2,if_neg (by first|(rw [show qbV t=false by assumption];exact Bool.noConfusion)|(intro h;simp [h] at c0))];done)
        | (rw [qc2,if_pos hf,if_pos (show t.kind=1 by assumption)];done)
        | (rw [qc2,if_pos hf,if_neg (show ¬ t.kind=1 by assumption),hend];done)
        | (rw [qc2,if_pos hf,if_pos (show t.kind=1 by assumption)];rfl)
        | trace_state
    simp only[↓cqA,cqB]at c0
    have hf:qbV t=true:=by first|assumption|(simpa using c0)
    refine qr (qa (qd (qd (qb (zA E (qe E qap E) (zA E (qi E qQ E E E E E) (zA E (qj E E E E) ?_)))))));refine zK (qo E (fun c1=>?_) (fun c1=>?_))
    · simp only[↓cqA,cqB]at c1
      refine qd (qb (zA E (qi E qgl E E E E E) (zA E (qda E E) (zA E (qi E qQ E E E E E) (zA E (qa3 E E E zO) (zA E (qda E E) (qT E E E qQ E E E E E E E E E ?_)))))));refine zK (qd (qb ?_))
      refine zA E (qi E qgl E E E E E) (zA E (qda E E) (zA E (qi E qQ E E E E E) (zA E (qj E E E E) (zX E (zK (qn ?_))))));refine qm ?_
      change retQ _ _ _ _ _ _ _
      refine retO (O':=[(0,_)]) (.inl E) (qg E qh) (SubO.cons E SubO.nil) ?_ ?_ ?_ ?_
      · rfl
      · rfl
      · exact LO hL E
      refine qmJ ?_
      first
        | (rw [qc2,if_neg (by first|(rw [show qbV t=false by assumption];exact Bool.noConfusion)|(intro h;simp [h] at c0))];done)
        | (rw [qc2,if_pos hf,if_pos (show t.kind=1 by assumption)];done)
        | (rw [qc2,if_pos hf,if_neg (show ¬ t.kind=1 by assumption),hend];done)
        | (rw [qc2,if_pos hf,if_pos (show t.kind=1 by assumption)];rfl)
        | trace_state
    simp only[↓cqA,cqB]at c1
    obtain ⟨hl1,hr1,hc1⟩:=qrb hf (by assumption)
    have hcl:(t.l++t.r++t.c).length≤3:=by simp only [List.length_append];omega
    have hmap:([ptDs t.l,ptDs t.r,ptDs t.c]:List (List (List D))).flatten=(t.l++t.r++t.c).map ptD:=by simp [qd1]
    have hcat:=qoB [ptDs t.l,ptDs t.r,ptDs t.c] (fun es hes x hx=>by
      simp only [List.mem_cons,List.not_mem_nil,or_false] at hes
      rcases hes with rfl|rfl|rfl<;>exact qrV _ x hx) (by rw [hmap,List.length_map];omega) (by simp)
    rw [hmap] at hcat
    have hst:∀ k u,(t.l++t.r++t.c)[k]?=some u→(∀ j,j<k→thrP (qc2 d) (t.l++t.r++t.c) n j=false)→AC Tryz.prog 230 [ptA false u,.ptr 4 0,.ptr 5 0] [(4,.box [iv e]),(5,.box [.ptr 0 0]),(0,.box [iv (thrK (qc2 d) (t.l++t.r++t.c) n k)])]
        (fun r O=>r=bv (thrP (qc2 d) (t.l++t.r++t.c) n k)∧O=[(4,.box [iv e]),(5,.box [.ptr 0 0]),(0,.box [iv (thrK (qc2 d) (t.l++t.r++t.c) n (k+1))])]):=fun k u hu hj=>by
      obtain ⟨e1,e2⟩:=qnt (qc2 d) (t.l++t.r++t.c) n k u hu hj
      have hkl:k<(t.l++t.r++t.c).length:=by have:=List.getElem?_eq_some_iff.1 hu;exact this.1
      have hr:=qlI (qc2 d) (fun t n hn=>qkP d t n hn) (t.l++t.r++t.c) n k (by omega) hj (by omega)
      rw [e1,e2]
      exact mayP1_ok d zO (ih zO) e zO u _ (hwA u (List.mem_of_getElem? hu)) hr.1 zO
    refine qr (qa (qd (qb (zA E (qe E qaP E) (zA E (qi E qB E E E E E) (zA E (qe E qaO E) (zA E (qi E qB E E E E E) ?_)))))));refine zA E (qe E qaD E) ?_
    refine zA E (qi E qB E E E E E) ?_;refine zA E (qbk false E qcS qjH E E zD zD zD E E E E) ?_;refine qag (avs:=[_]) false E E E zD qdu E E (hcat) E (qbQ .nil) (by rintro r O' ⟨_,rfl⟩;exact frB E) (by rintro h;cases h) ?_
    rintro r O' ⟨rfl,rfl⟩
    refine zA E (qdz (vs:=[_,_]) E E) ?_
    refine qag (avs:=[_,_]) true E E E zD qc5 E E (qi2 true (t.l++t.r++t.c) _ E zO _ [.ptr 4 0,.ptr 5 0] qm0 (fun k=>[(4,.box [iv e]),(5,.box [.ptr 0 0]),(0,.box [iv (thrK (qc2 d) (t.l++t.r++t.c) n k)])]) (thrP (qc2 d) (t.l++t.r++t.c) n) ⟨fun k l=>qdN (by rfl) l,fun k=>qbQ (.cons E trivial E (.cons E trivial E (.cons E trivial E .nil))),fun k=>rfl,fun k=>rfl,fun k=>rfl,fun k=>rfl,fun _ k=>rfl⟩ (fun k u hu hj=>hst k u hu hj)) E (qbQ (.cons E trivial E (.cons E trivial E (.cons E trivial E .nil)))) (by rintro r O' ⟨m,k,b,_,_,_,_,rfl⟩ l hl;exact .inl ((qdN (by rfl) l).trans hl)) (by rintro-r O' ⟨m,k,b,_,_,_,rfl,rfl⟩;exact ⟨rfl,rfl⟩) ?_
    rintro r O' ⟨m,k,b,hm,hfm,hc,rfl,rfl⟩
    have hend:=ql1 (qc2 d) (t.l++t.r++t.c) n m k b hfm hc
    refine zA E (qaB E E) (zX E (zK (qn ?_)))
    change retQ _ _ _ _ _ _ _
    refine retO (O':=[(0,_)]) (.inl E) (qg E qh) (SubO.cons E SubO.nil) ?_ ?_ ?_ ?_
    · rfl
    · rfl
    · exact LO hL E
    refine qmJ ?_
    first
      | (rw [qc2,if_neg (by first|(rw [show qbV t=false by assumption];exact Bool.noConfusion)|(intro h;simp [h] at c0))];done)
      | (rw [qc2,if_pos hf,if_pos (show t.kind=1 by assumption)];done)
      | (rw [qc2,if_pos hf,if_neg (show ¬ t.kind=1 by assumption),hend];done)
      | (rw [qc2,if_pos hf,if_pos (show t.kind=1 by assumption)];rfl)
      | trace_state
theorem qrL (p:Pt)(hp:p.wf):PF 111 [ptA false p] (bv (okP p)):=by
 have key:=qc0 0 3 (mayP_ok 8 (by omega) 8 E p 12 hp (by omega) (by omega))
 refine qI Tryz.func111 E Tryz.ntmps111 zL fun c hL hQ hDD=>(qd (qb (qt E E zD (q6 1 E E E) E (zX E (zK (qd ?_))))));refine qb (qt E E zD (qat 3 E qhR E) E (qT E E E qQ E E E E E E E E E (zK (qd (qb ?_)))))
 refine zA E (qF E qL E E E E) ?_;refine qag (avs:=[_,_,_]) true E E E zD qk5 E E (key) E (qbQ (.cons E trivial E .nil)) (by rintro r O' ⟨rfl,rfl⟩ l hl;exact .inl ((qdN (by rfl) l).trans hl)) (by rintro-r O' ⟨rfl,rfl⟩;exact ⟨rfl,rfl⟩) ?_
 rintro r O' ⟨rfl,rfl⟩
 refine zX E (zK (qn (zI hL (qg E qh) ?_ ?_)))
 ·rfl
 exact ⟨rfl,rfl⟩
theorem qrX {d:Nat}{p:Pt}(hk:p.kind=1):qcC (d+1) p=1:=by rw [qcC,if_pos hk]
theorem qkl (f:Pt→Int){k:Nat}(h:l[k]?=some u):sumP f (l.take (k+1))=sumP f (l.take k)+f u:=by
 rw [qas h];simp [sumP]
theorem qpI (f:Pt→Int)(l m:List Pt):sumP f (l++m)=sumP f l+sumP f m:=by simp [sumP]
theorem qiA:∀ (d:Nat) (p:Pt),patB d p=true→qcC d p≤3 ^ d
 | 0,p,h=>by rw [patB] at h;cases h
 | d+1,p,h=>by
   have hp1:1≤3 ^ d:=Nat.one_le_pow _ _ (by decide)
   have h3:(3:Int) ^ (d+1)=3*3 ^ d:=by rw [Int.pow_succ];omega
   have hq:(1:Int)≤3 ^ d:=by exact_mod_cast hp1
   rw [qcC]
   split
   ·omega
   ·rename_i hk
    obtain ⟨_,hl,hr,hc5,_,h1,h2,h4,hc1⟩:=qdV h hk
    have a1:=qiA d _ h1
    have a2:=qiA d _ h2
    rw [qhA hl,qhA hr]
    simp only [sumP,List.map_append,List.map_cons,List.map_nil,List.sum_append,List.sum_cons,List.sum_nil]
    by_cases hc:p.c.length=0
    ·rw [List.eq_nil_of_length_eq_zero hc]
     simp;omega
    ·have a3:=qiA d _ (h4 (hc5.2 (by omega)))
     rw [qhA (l:=p.c) (by omega)]
     simp only [List.map_cons,List.map_nil,List.sum_cons,List.sum_nil]
     omega
theorem qoY (h:l.length≤1)(hu:u∈l):u=hdP l:=by
 cases l with
 | nil=>cases hu
 | cons a l=>cases l with
   | nil=>rw [List.mem_singleton.1 hu];rfl
   | cons b l=>simp only [List.length_cons] at h;omega
theorem qmq (f:Pt→Int)(h:l.length≤1){B:Int}(hB:0≤B)(hf:∀ u∈l,0≤f u∧f u≤B)(k:Nat):0≤sumP f (l.take k)∧sumP f (l.take k)≤B:=by
 cases l with
 | nil=>simp [sumP];exact hB
 | cons a l=>cases l with
   | nil=>
     cases k with
     | zero=>simp [sumP];exact hB
     | succ k=>simp [sumP];exact hf a (by simp)
   | cons b l=>simp only [List.length_cons] at h;omega
theorem qqF:∀ (d:Nat),d≤10→∀ p:Pt,p.wf→patB d p=true→PF 102 [ptA false p] (iv (qcC d p))
 | 0,_=>fun p _ h=>by rw [patB] at h;cases h
 | d+1,hd=>fun p hp hb=>by
   have ih:=qqF d (by omega)
   have hdl:=qaQ p.l
   have hdr:=qaQ p.r
   have hdc:=qaQ p.c
   have hwL:=hp.2.2.2.1.2
   have hwR:=hp.2.2.2.2.1.2
   have hwC:=hp.2.2.2.2.2.2
   have h3d:(3:Int) ^ d≤3 ^ 10:=by exact_mod_cast Nat.pow_le_pow_right (by decide:0<3) (by omega:d≤10)
   have h310:(3:Int) ^ 10=59049:=by decide
   have hrng:∀ u,patB d u=true→0≤qcC d u∧qcC d u≤59049:=fun u hu=>⟨qkJ d u,by have:=qiA d u hu;omega⟩
   by_cases hk1:p.kind=1
   ·rw [qrX hk1]
    refine qI Tryz.func102 E Tryz.ntmps102 zL fun c hL hQ hDD=>(qd (qb (qt E E zD (q6 1 E E E) E (zX E (zK (qd ?_))))));refine qd (qb (zA E (qe E qap E) (zA E (qi E qQ E E E E E) (zA E (qj E E E E) (zK (qo E (fun c0=>?_) (fun c0=>?_)))))))
    ·simp only[↓cqA,cqB]at c0
     refine qd (qb (zX E (zK (qn (qm (zI hL (qg E qh) ?_ ?_))))))
     ·rfl
     exact ⟨rfl,rfl⟩
    simp only[↓cqA,cqB]at c0
    omega
   ·obtain ⟨_,hl1,hr1,hc5,_,hbl,hbr,hbc,hc1⟩:=qdV hb hk1
    have pL:∀ u∈p.l,patB d u=true:=fun u hu=>by rw [qoY (by omega) hu];exact hbl
    have pR:∀ u∈p.r,patB d u=true:=fun u hu=>by rw [qoY (by omega) hu];exact hbr
    have pC:∀ u∈p.c,patB d u=true:=fun u hu=>by
     rw [qoY hc1 hu]
     exact hbc (hc5.2 (by have:=List.length_pos_of_mem hu;omega))
    have sL:=qmq (qcC d) (l:=p.l) (by omega) (B:=59049) (by omega) (fun u hu=>hrng u (pL u hu))
    have sR:=qmq (qcC d) (l:=p.r) (by omega) (B:=59049) (by omega) (fun u hu=>hrng u (pR u hu))
    have sC:=qmq (qcC d) (l:=p.c) hc1 (B:=59049) (by omega) (fun u hu=>hrng u (pC u hu))
    have tL:=sL p.l.length
    have tR:=sR p.r.length
    rw [List.take_length] at tL tR
    refine qI Tryz.func102 E Tryz.ntmps102 zL fun c hL hQ hDD=>(qd (qb (qt E E zD (q6 1 E E E) E (zX E (zK (qd ?_))))));refine qd (qb (zA E (qe E qap E) (zA E (qi E qQ E E E E E) (zA E (qj E E E E) (zK (qo E (fun c0=>?_) (fun c0=>?_)))))))
    ·simp only[↓cqA,cqB]at c0
     omega
    simp only[↓cqA,cqB]at c0
    refine qr (qa (qd (qb (zX E (zK (qdr ⟨[(1,.ptr 1 0),(3,iv (sumP (qcC d) p.l))],[(1,.box (lift false (ptD p)))]⟩ ?_ ?_))))))
    ·refine qd (qb (zX E (zK (qv (qac (p.l.length) (fun k=>k≤p.l.length) (fun k=>⟨[(1,.ptr 1 0),(3,iv (0+sumP (qcC d) (p.l.take k))),(4,iv (k:Int))],[(1,.box (lift false (ptD p)))]⟩) zO ?_ (fun k hk hp=>?_))))))
     ·exact zR hL (zC E (SubT.cons (qaw E (by exact qan (by simp [sumP]))) (zC rfl SubT.nil))) (SubO.cons (qU rfl (by rfl)) SubO.nil)
     have hsr:=sL k
     refine qd (qd (qb (zX E (zA E (qe E qaP E) (zA E (qi E qB E E E E E) (zA E (qu E qy E) (zA E (qj E E E E) ?_)))))));refine zK (qo E (fun c1=>?_) (fun c1=>?_))
     ·simp only[↓cqA,cqB]at c1
      obtain ⟨u,hu⟩:=qM (l:=p.l) (k:=k) (by omega)
      have hum:=List.mem_of_getElem? hu
      have hsn:=qkl (qcC d) hu
      have hsr2:=sL (k+1)
      have hpb:=pL u hum
      refine qr (qa (qd (qv (qb (zX E (zA E (qe E qaP E) (zA E (qi E qB E E E E E) ?_)))))));refine zX E (zA E (qp E qy E E zO (qba hu)) (zA E (qD E qL E E) (qH (avs:=[_]) true E E E zD qcX E E (ih u (Pt.wfs_iff.1 hwL u hum) hpb) E E (zA E (qO E E E zO) (zX E (qc (qR (qa (qb ?_)))))))))
      refine zX E (zA E (qO E E E zO) (zX E (zK ?_)));refine ⟨?_,?_,?_⟩
      ·omega
      ·omega
      exact zR hL (zC E (SubT.cons (qaw E (by exact qan (by rw [hsn];omega))) (zC E SubT.nil))) (SubO.cons (qU E (by rfl)) SubO.nil)
     simp only[↓cqA,cqB]at c1
     refine qV (qq (qq (qad ?_)))
     exact qaC (qC (zC E (SubT.cons (qaw E (by exact qan (by rw [List.take_of_length_le zO,Int.zero_add]))) SubT.nil)) (SubO.cons (qU rfl (by rfl)) SubO.nil) E E (noL' (noL hL) _))
    refine qdr ⟨[(1,.ptr 1 0),(3,iv (sumP (qcC d) p.l+sumP (qcC d) p.r))],[(1,.box (lift false (ptD p)))]⟩ ?_ ?_
    ·refine qd (qb (zX E (zK (qv (qac (p.r.length) (fun k=>k≤p.r.length) (fun k=>⟨[(1,.ptr 1 0),(3,iv (sumP (qcC d) p.l+sumP (qcC d) (p.r.take k))),(5,iv (k:Int))],[(1,.box (lift false (ptD p)))]⟩) zO ?_ (fun k hk hp=>?_))))))
     ·exact zR hL (zC E (SubT.cons (qaw E (by exact qan (by simp [sumP]))) (zC rfl SubT.nil))) (SubO.cons (qU rfl (by rfl)) SubO.nil)
     have hsr:=sR k
     refine qd (qd (qb (zX E (zA E (qe E qaO E) (zA E (qi E qB E E E E E) (zA E (qu E qy E) (zA E (qj E E E E) ?_)))))));refine zK (qo E (fun c2=>?_) (fun c2=>?_))
     ·simp only[↓cqA,cqB]at c2
      obtain ⟨u,hu⟩:=qM (l:=p.r) (k:=k) (by omega)
      have hum:=List.mem_of_getElem? hu
      have hsn:=qkl (qcC d) hu
      have hsr2:=sR (k+1)
      have hpb:=pR u hum
      refine qr (qa (qd (qv (qb (zX E (zA E (qe E qaO E) (zA E (qi E qB E E E E E) ?_)))))));refine zX E (zA E (qp E qy E E zO (qba hu)) (zA E (qD E qL E E) (qH (avs:=[_]) true E E E zD qcX E E (ih u (Pt.wfs_iff.1 hwR u hum) hpb) E E (zA E (qO E E E zO) (zX E (qc (qR (qa (qb ?_)))))))))
      refine zX E (zA E (qO E E E zO) (zX E (zK ?_)));refine ⟨?_,?_,?_⟩
      ·omega
      ·omega
      exact zR hL (zC E (SubT.cons (qaw E (by exact qan (by rw [hsn];omega))) (zC E SubT.nil))) (SubO.cons (qU E (by rfl)) SubO.nil)
     simp only[↓cqA,cqB]at c2
     refine qV (qq (qq (qad ?_)))
     exact qaC (qC (zC E (SubT.cons (qaw E (by exact qan (by rw [List.take_of_length_le zO]))) SubT.nil)) (SubO.cons (qU rfl (by rfl)) SubO.nil) E E (noL' (noL hL) _))
    refine qd (qd (qb (zX E (zK (qv (qac (p.c.length) (fun k=>k≤p.c.length) (fun k=>⟨[(1,.ptr 1 0),(3,iv (sumP (qcC d) p.l+sumP (qcC d) p.r+sumP (qcC d) (p.c.take k))),(6,iv (k:Int))],[(1,.box (lift false (ptD p)))]⟩) zO ?_ (fun k hk hp=>?_)))))))
    ·exact zR hL (zC E (SubT.cons (qaw E (by exact qan (by simp [sumP]))) (zC rfl SubT.nil))) (SubO.cons (qU rfl (by rfl)) SubO.nil)
    have hsr:=sC k
    refine qd (qd (qb (zX E (zA E (qe E qaD E) (zA E (qi E qB E E E E E) (zA E (qu E qy E) (zA E (qj E E E E) ?_)))))));refine zK (qo E (fun c3=>?_) (fun c3=>?_))
    ·simp only[↓cqA,cqB]at c3
     obtain ⟨u,hu⟩:=qM (l:=p.c) (k:=k) (by omega)
     have hum:=List.mem_of_getElem? hu
     have hsn:=qkl (qcC d) hu
     have hsr2:=sC (k+1)
     have hpb:=pC u hum
     refine qr (qa (qd (qv (qb (zX E (zA E (qe E qaD E) (zA E (qi E qB E E E E E) ?_)))))));refine zX E (zA E (qp E qy E E zO (qba hu)) (zA E (qD E qL E E) (qH (avs:=[_]) true E E E zD qcX E E (ih u (Pt.wfs_iff.1 hwC u hum) hpb) E E (zA E (qO E E E zO) (zX E (qc (qR (qa (qb ?_)))))))))
     refine zX E (zA E (qO E E E zO) (zX E (zK ?_)));refine ⟨?_,?_,?_⟩
     ·omega
     ·omega
     exact zR hL (zC E (SubT.cons (qaw E (by exact qan (by rw [hsn];omega))) (zC E SubT.nil))) (SubO.cons (qU E (by rfl)) SubO.nil)
    simp only[↓cqA,cqB]at c3
    refine qV (qq (qq (qad ?_)));refine qa (qd (qb (zX E (zX E (zK (qn (zI hL (qg E qh) ?_ ?_)))))))
    ·rfl
    exact ⟨qbx (by rw [List.take_of_length_le zO,qcC,if_neg hk1,qpI,qpI]),rfl⟩
theorem qss (t:Tm)(hd:dle 30 t)(hw:t.wf):PF 100 [tmA false t,.agg [iv 0,sv ⟨#[]⟩,iv 0,.imm (.slice none 0 0)]] (bv (qb2 t)):=by
 have e3:eqT 30 t qfQ=qb2 t:=by
  rw [Bool.eq_iff_iff,qgD 30 _ _ hd,qp4]
 have key:=AC_le (.cons .refl (.cons (zero_le false) .nil)) (qeT 30 t qfQ hd hw qry)
 rw [e3] at key
 exact key
theorem patS:(∀ a b:Bool,((a&&b)=true)=(a=true∧b=true))∧(∀ a b:Bool,((a || b)=true)=(a=true∨b=true))∧(∀ (p:Prop) [Decidable p],(decide p=true)=p)∧(∀ a b:Int,((a==b)=true)=(a=b))∧(∀ a b:Nat,((a==b)=true)=(a=b))∧(∀ a b:Bool,((a==b)=true)=(a=b))∧((false=true)=False)∧((true=true)=True)∧(∀ p,(p∧True)=p)∧(∀ p,(True∧p)=p)∧(∀ p,(p∧False)=False)∧(∀ p,(False∧p)=False)∧(∀ p,(p∨True)=True)∧(∀ p,(True∨p)=True)∧(∀ p,(p∨False)=p)∧(∀ p,(False∨p)=p)∧(∀ p,(p↔True)=p)∧(∀ p,(True↔p)=p)∧(∀ p,(p↔False)=¬ p)∧(∀ p,(False↔p)=¬ p)∧((¬ False)=True)∧((¬ True)=False):=by
 refine ⟨?_,?_,?_,?_,?_,?_,?_,?_,?_,?_,?_,?_,?_,?_,?_,?_,?_,?_,?_,?_,?_,?_⟩<;>simp
theorem qkw:∀ (d:Nat),d≤8→∀ (e:Int),e=d→∀ (D:Nat) (p:Pt),p.wf→dlP D p→PF 101 [ptA false p,iv e] (bv (patB d p))
 | 0,_=>fun e he D p hp hd=>by
   refine qI Tryz.func101 E Tryz.ntmps101 zL fun c hL hQ hDD=>(qd (qb (qt E E zD (q6 2 E E E) E (zX E (zK (qd ?_))))));refine qd (qb (zX E (zA E (qj E E E E) (zX E (qE 7 E (fun g7=>?_) (fun g7=>?_))))))
   ·simp only[↓cqA,cqB]at g7
    refine zY E (zY E (zY E (zY E (zA E (qk E E E) (zX E (zY E (zY E (zY E (zY E (zA E (qk E E E) (zX E ?_)))))))))))
    refine zY E (zY E (zY E (zY E (zA E (qk E E E) (zK (qa2 E ?_))))));refine qd (qb (zX E (zK (qn (qm (zI hL (qg E qh) ?_ ?_))))))
    ·rfl
    exact ⟨q7 (by rw [patB]),rfl⟩
   simp only[↓cqA,cqB]at g7
   omega
 | d+1,hd8=>fun e he D p hp hd=>by
   obtain ⟨D,rfl⟩:∃ q,D=q+1:=by
    cases D with
    | zero=>exact hd.elim
    | succ D=>exact ⟨D,rfl⟩
   obtain ⟨hdt,hdL,hdR,hdC⟩:=hd
   have ih:=qkw d (by omega)
   have htw:=hp.2.1
   have hdl:=qaQ p.l
   have hdr:=qaQ p.r
   have hdc:=qaQ p.c
   have hwl:=qds hp.2.2.2.1.2
   have hwr:=qds hp.2.2.2.2.1.2
   have hwc:=qds hp.2.2.2.2.2.2
   have hhd:∀ {l:List Pt},l.length≠0→hdP l∈l:=fun {l} h=>List.mem_of_getElem? (qdO h)
   refine qI Tryz.func101 E Tryz.ntmps101 zL fun c hL hQ hDD=>(qd (qb (qt E E zD (q6 2 E E E) E (zX E (zK (qd ?_))))));refine qd (qb (zX E (zA E (qj E E E E) (zX E (qE 7 E (fun g7=>?_) (fun g7=>?_))))))
   ·simp only[↓cqA,cqB]at g7
    omega
   simp only[↓cqA,cqB]at g7
   refine zZ E (qe E qaP E) (zZ E (qi E qB E E E E E) (zZ E (qu E qy E) (zZ E (qj E E E E) (zA E (qk E E E) (zX E (qE 13 E (fun g13=>?_) (fun g13=>?_)))))))
   ·simp only[↓cqA,cqB]at g13
    refine zY E (zY E (zY E (zY E (zA E (qk E E E) (zX E ?_)))))
    refine zY E (zY E (zY E (zY E (zA E (qk E E E) (zK (qa2 E ?_))))));refine qd (qb (zX E (zK (qn (qm (zI hL (qg E qh) ?_ ?_))))))
    ·rfl
    refine ⟨q7 ?_,rfl⟩
    rw [patB,qdk]
    clear ih hwl hwr hwc hdL hdR hdC hhd hp htw hdt
    simp only [hdl,hdr,hdc] at*
    generalize p.l.length=L,p.r.length=R,p.c.length=C,patB d (hdP p.l)=b1,patB d (hdP p.r)=b2,patB d (hdP p.c)=b3,qb2 p.t=b4,mayT p.t=b5,p.t.kind=tk,p.rel=q,p.kind=k at*
    clear hdl hdr hdc
    rw [Bool.eq_iff_iff]
    by_cases hh:L≤1∧R≤1∧C≤1
    ·rw [if_pos hh]
     by_cases hk:k=1
     ·rw [if_pos hk]
      cases b5<;>first|(simp_all;done)|(simp_all;omega)
     ·rw [if_neg hk]
      try rw [Bool.eq_iff_iff] at c2
      try simp only [beq_iff_eq,decide_eq_true_eq] at c2
      try rw [Bool.eq_iff_iff] at g100
      try simp only [beq_iff_eq,decide_eq_true_eq] at g100
      cases b1<;>cases b2<;>cases b3<;>cases b4<;>first|contradiction|(exfalso;omega)|(simp only [patS]<;>omega)
    ·first|(rw [if_neg hh];done)|(exfalso;omega)|(rw [if_neg hh];simp;done)
   simp only[↓cqA,cqB]at g13
   refine zZ E (qe E qaO E) (zZ E (qi E qB E E E E E) (zZ E (qu E qy E) (zZ E (qj E E E E) (zA E (qk E E E) (zX E (qE 19 E (fun g19=>?_) (fun g19=>?_)))))))
   ·simp only[↓cqA,cqB]at g19
    refine zY E (zY E (zY E (zY E (zA E (qk E E E) (zK (qa2 E ?_))))));refine qd (qb (zX E (zK (qn (qm (zI hL (qg E qh) ?_ ?_))))))
    ·rfl
    refine ⟨q7 ?_,rfl⟩
    rw [patB,qdk]
    clear ih hwl hwr hwc hdL hdR hdC hhd hp htw hdt
    simp only [hdl,hdr,hdc] at*
    generalize p.l.length=L,p.r.length=R,p.c.length=C,patB d (hdP p.l)=b1,patB d (hdP p.r)=b2,patB d (hdP p.c)=b3,qb2 p.t=b4,mayT p.t=b5,p.t.kind=tk,p.rel=q,p.kind=k at*
    clear hdl hdr hdc
    rw [Bool.eq_iff_iff]
    by_cases hh:L≤1∧R≤1∧C≤1
    ·rw [if_pos hh]
     by_cases hk:k=1
     ·rw [if_pos hk]
      cases b5<;>first|(simp_all;done)|(simp_all;omega)
     ·rw [if_neg hk]
      try rw [Bool.eq_iff_iff] at c2
      try simp only [beq_iff_eq,decide_eq_true_eq] at c2
      try rw [Bool.eq_iff_iff] at g100
      try simp only [beq_iff_eq,decide_eq_true_eq] at g100
      cases b1<;>cases b2<;>cases b3<;>cases b4<;>first|contradiction|(exfalso;omega)|(simp only [patS]<;>omega)
    ·first|(rw [if_neg hh];done)|(exfalso;omega)|(rw [if_neg hh];simp;done)
   simp only[↓cqA,cqB]at g19
   refine zZ E (qe E qaD E) (zZ E (qi E qB E E E E E) (zZ E (qu E qy E) (zZ E (qj E E E E) (zA E (qk E E E) (zK (qo E (fun c0=>?_) (fun c0=>?_)))))))
   ·simp only[↓cqA,cqB]at c0
    refine qd (qb (zX E (zK (qn (qm (zI hL (qg E qh) ?_ ?_))))))
    ·rfl
    refine ⟨q7 ?_,rfl⟩
    rw [patB,qdk]
    clear ih hwl hwr hwc hdL hdR hdC hhd hp htw hdt
    simp only [hdl,hdr,hdc] at*
    generalize p.l.length=L,p.r.length=R,p.c.length=C,patB d (hdP p.l)=b1,patB d (hdP p.r)=b2,patB d (hdP p.c)=b3,qb2 p.t=b4,mayT p.t=b5,p.t.kind=tk,p.rel=q,p.kind=k at*
    clear hdl hdr hdc
    rw [Bool.eq_iff_iff]
    by_cases hh:L≤1∧R≤1∧C≤1
    ·rw [if_pos hh]
     by_cases hk:k=1
     ·rw [if_pos hk]
      cases b5<;>first|(simp_all;done)|(simp_all;omega)
     ·rw [if_neg hk]
      try rw [Bool.eq_iff_iff] at c2
      try simp only [beq_iff_eq,decide_eq_true_eq] at c2
      try rw [Bool.eq_iff_iff] at g100
      try simp only [beq_iff_eq,decide_eq_true_eq] at g100
      cases b1<;>cases b2<;>cases b3<;>cases b4<;>first|contradiction|(exfalso;omega)|(simp only [patS]<;>omega)
    ·first|(rw [if_neg hh];done)|(exfalso;omega)|(rw [if_neg hh];simp;done)
   simp only[↓cqA,cqB]at c0
   refine qr (qa (qd (qd (qb (zA E (qe E qap E) (zA E (qi E qQ E E E E E) (zA E (qj E E E E) ?_)))))));refine zK (qo E (fun c1=>?_) (fun c1=>?_))
   ·simp only[↓cqA,cqB]at c1
    refine qd (qb (zA E (qe E qa6 E) (zA E (qe E qaL E) (zA E (qi E qQ E E E E E) (zA E (qj E E E E) (zX E (qE 32 E (fun g32=>?_) (fun g32=>?_))))))))
    ·simp only[↓cqA,cqB]at g32
     refine zZ E (qe E qa6 E) (zZ E (qi E qz E E E E E) (zZ E (qai (avs:=[_]) true E qe3 E E (qpW p.t htw) (fun _=>rfl) E) (zA E (qk E E E) (zX E (qE 37 E (fun g37=>?_) (fun g37=>?_))))))
     ·refine zZ E (qe E qaT E) (zZ E (qi E qQ E E E E E) (zZ E (qj E E E E) (zA E (qk E E E) (zX E (qE 42 E (fun g42=>?_) (fun g42=>?_))))))
      ·simp only[↓cqA,cqB]at g42
       refine zZ E (qe E qaP E) (zZ E (qi E qB E E E E E) (zZ E (qu E qy E) (zZ E (qj E E E E) (zA E (qk E E E) (zX E (qE 48 E (fun g48=>?_) (fun g48=>?_)))))))
       ·simp only[↓cqA,cqB]at g48
        refine zZ E (qe E qaO E) (zZ E (qi E qB E E E E E) (zZ E (qu E qy E) (zZ E (qj E E E E) (zA E (qk E E E) (zX E (qE 54 E (fun g54=>?_) (fun g54=>?_)))))))
        ·simp only[↓cqA,cqB]at g54
         refine zZ E (qe E qaD E) (zZ E (qi E qB E E E E E) (zZ E (qu E qy E) (zZ E (qj E E E E) (zA E (qk E E E) (zX E (zK (qn (qm (zI hL (qg E qh) ?_ ?_)))))))))
         ·rfl
         refine ⟨q7 ?_,rfl⟩
         rw [patB,qdk]
         clear ih hwl hwr hwc hdL hdR hdC hhd hp htw hdt
         simp only [hdl,hdr,hdc] at*
         generalize p.l.length=L,p.r.length=R,p.c.length=C,patB d (hdP p.l)=b1,patB d (hdP p.r)=b2,patB d (hdP p.c)=b3,qb2 p.t=b4,mayT p.t=b5,p.t.kind=tk,p.rel=q,p.kind=k at*
         clear hdl hdr hdc
         rw [Bool.eq_iff_iff]
         by_cases hh:L≤1∧R≤1∧C≤1
         ·rw [if_pos hh]
          by_cases hk:k=1
          ·rw [if_pos hk]
           cases b5<;>first|(simp_all;done)|(simp_all;omega)
          ·rw [if_neg hk]
           try rw [Bool.eq_iff_iff] at c2
           try simp only [beq_iff_eq,decide_eq_true_eq] at c2
           try rw [Bool.eq_iff_iff] at g100
           try simp only [beq_iff_eq,decide_eq_true_eq] at g100
           cases b1<;>cases b2<;>cases b3<;>cases b4<;>first|contradiction|(exfalso;omega)|(simp only [patS]<;>omega)
         ·first|(rw [if_neg hh];done)|(exfalso;omega)|(rw [if_neg hh];simp;done)
        simp only[↓cqA,cqB]at g54
        refine zY E (zY E (zY E (zY E (zA E (qk E E E) (zX E (zK ?_))))));refine qn (qm (zI hL (qg E qh) ?_ ?_))
        ·rfl
        refine ⟨q7 ?_,rfl⟩
        rw [patB,qdk]
        clear ih hwl hwr hwc hdL hdR hdC hhd hp htw hdt
        simp only [hdl,hdr,hdc] at*
        generalize p.l.length=L,p.r.length=R,p.c.length=C,patB d (hdP p.l)=b1,patB d (hdP p.r)=b2,patB d (hdP p.c)=b3,qb2 p.t=b4,mayT p.t=b5,p.t.kind=tk,p.rel=q,p.kind=k at*
        clear hdl hdr hdc
        rw [Bool.eq_iff_iff]
        by_cases hh:L≤1∧R≤1∧C≤1
        ·rw [if_pos hh]
         by_cases hk:k=1
         ·rw [if_pos hk]
          cases b5<;>first|(simp_all;done)|(simp_all;omega)
         ·rw [if_neg hk]
          try rw [Bool.eq_iff_iff] at c2
          try simp only [beq_iff_eq,decide_eq_true_eq] at c2
          try rw [Bool.eq_iff_iff] at g100
          try simp only [beq_iff_eq,decide_eq_true_eq] at g100
          cases b1<;>cases b2<;>cases b3<;>cases b4<;>first|contradiction|(exfalso;omega)|(simp only [patS]<;>omega)
        ·first|(rw [if_neg hh];done)|(exfalso;omega)|(rw [if_neg hh];simp;done)
       simp only[↓cqA,cqB]at g48
       refine zY E (zY E (zY E (zY E (zA E (qk E E E) ?_))))
       refine zX E (zY E (zY E (zY E (zY E (zA E (qk E E E) (zX E (qc ?_)))))));refine qa (qn (qm (zI hL (qg E qh) ?_ ?_)))
       ·rfl
       refine ⟨q7 ?_,rfl⟩
       rw [patB,qdk]
       clear ih hwl hwr hwc hdL hdR hdC hhd hp htw hdt
       simp only [hdl,hdr,hdc] at*
       generalize p.l.length=L,p.r.length=R,p.c.length=C,patB d (hdP p.l)=b1,patB d (hdP p.r)=b2,patB d (hdP p.c)=b3,qb2 p.t=b4,mayT p.t=b5,p.t.kind=tk,p.rel=q,p.kind=k at*
       clear hdl hdr hdc
       rw [Bool.eq_iff_iff]
       by_cases hh:L≤1∧R≤1∧C≤1
       ·rw [if_pos hh]
        by_cases hk:k=1
        ·rw [if_pos hk]
         cases b5<;>first|(simp_all;done)|(simp_all;omega)
        ·rw [if_neg hk]
         try rw [Bool.eq_iff_iff] at c2
         try simp only [beq_iff_eq,decide_eq_true_eq] at c2
         try rw [Bool.eq_iff_iff] at g100
         try simp only [beq_iff_eq,decide_eq_true_eq] at g100
         cases b1<;>cases b2<;>cases b3<;>cases b4<;>first|contradiction|(exfalso;omega)|(simp only [patS]<;>omega)
       ·first|(rw [if_neg hh];done)|(exfalso;omega)|(rw [if_neg hh];simp;done)
      simp only[↓cqA,cqB]at g42
      refine zY E (zY E (zY E (zY E (zA E (qk E E E) (zX E (zY E (zY E (zY E (zY E (zA E (qk E E E) (zX E ?_)))))))))))
      refine zY E (zY E (zY E (zY E (zA E (qk E E E) (zX E (zK ?_))))));refine qn (qm (zI hL (qg E qh) ?_ ?_))
      ·rfl
      refine ⟨q7 ?_,rfl⟩
      rw [patB,qdk]
      clear ih hwl hwr hwc hdL hdR hdC hhd hp htw hdt
      simp only [hdl,hdr,hdc] at*
      generalize p.l.length=L,p.r.length=R,p.c.length=C,patB d (hdP p.l)=b1,patB d (hdP p.r)=b2,patB d (hdP p.c)=b3,qb2 p.t=b4,mayT p.t=b5,p.t.kind=tk,p.rel=q,p.kind=k at*
      clear hdl hdr hdc
      rw [Bool.eq_iff_iff]
      by_cases hh:L≤1∧R≤1∧C≤1
      ·rw [if_pos hh]
       by_cases hk:k=1
       ·rw [if_pos hk]
        cases b5<;>first|(simp_all;done)|(simp_all;omega)
       ·rw [if_neg hk]
        try rw [Bool.eq_iff_iff] at c2
        try simp only [beq_iff_eq,decide_eq_true_eq] at c2
        try rw [Bool.eq_iff_iff] at g100
        try simp only [beq_iff_eq,decide_eq_true_eq] at g100
        cases b1<;>cases b2<;>cases b3<;>cases b4<;>first|contradiction|(exfalso;omega)|(simp only [patS]<;>omega)
      ·first|(rw [if_neg hh];done)|(exfalso;omega)|(rw [if_neg hh];simp;done)
     refine zY E (zY E (zY E (zA E (qk E E E) (zX E (zY E (zY E (zY E (zY E (zA E (qk E E E) (zX E (zY E (zY E (zY E (zY E (zA E (qk E E E) (zX E (zY E ?_)))))))))))))))))
     refine zY E (zY E (zY E (zA E (qk E E E) (zX E (zK (qn ?_))))));refine qm (zI hL (qg E qh) ?_ ?_)
     ·rfl
     refine ⟨q7 ?_,rfl⟩
     rw [patB,qdk]
     clear ih hwl hwr hwc hdL hdR hdC hhd hp htw hdt
     simp only [hdl,hdr,hdc] at*
     generalize p.l.length=L,p.r.length=R,p.c.length=C,patB d (hdP p.l)=b1,patB d (hdP p.r)=b2,patB d (hdP p.c)=b3,qb2 p.t=b4,mayT p.t=b5,p.t.kind=tk,p.rel=q,p.kind=k at*
     clear hdl hdr hdc
     rw [Bool.eq_iff_iff]
     by_cases hh:L≤1∧R≤1∧C≤1
     ·rw [if_pos hh]
      by_cases hk:k=1
      ·rw [if_pos hk]
       cases b5<;>first|(simp_all;done)|(simp_all;omega)
      ·rw [if_neg hk]
       try rw [Bool.eq_iff_iff] at c2
       try simp only [beq_iff_eq,decide_eq_true_eq] at c2
       try rw [Bool.eq_iff_iff] at g100
       try simp only [beq_iff_eq,decide_eq_true_eq] at g100
       cases b1<;>cases b2<;>cases b3<;>cases b4<;>first|contradiction|(exfalso;omega)|(simp only [patS]<;>omega)
     ·first|(rw [if_neg hh];done)|(exfalso;omega)|(rw [if_neg hh];simp;done)
    simp only[↓cqA,cqB]at g32
    refine zY E (zY E (zY E (zA E (qk E E E) (zX E (zY E (zY E (zY E (zA E (qk E E E) (zX E (zY E (zY E (zY E (zY E (zA E (qk E E E) (zX E (zY E (zY E (zY E (zY E (zA E (qk E E E) (zX E (zY E (zY E ?_)))))))))))))))))))))))
    refine zY E (zY E (zA E (qk E E E) (zX E (zK (qn (qm (zI hL (qg E qh) ?_ ?_)))))))
    ·rfl
    refine ⟨q7 ?_,rfl⟩
    rw [patB,qdk]
    clear ih hwl hwr hwc hdL hdR hdC hhd hp htw hdt
    simp only [hdl,hdr,hdc] at*
    generalize p.l.length=L,p.r.length=R,p.c.length=C,patB d (hdP p.l)=b1,patB d (hdP p.r)=b2,patB d (hdP p.c)=b3,qb2 p.t=b4,mayT p.t=b5,p.t.kind=tk,p.rel=q,p.kind=k at*
    clear hdl hdr hdc
    rw [Bool.eq_iff_iff]
    by_cases hh:L≤1∧R≤1∧C≤1
    ·rw [if_pos hh]
     by_cases hk:k=1
     ·rw [if_pos hk]
      cases b5<;>first|(simp_all;done)|(simp_all;omega)
     ·rw [if_neg hk]
      try rw [Bool.eq_iff_iff] at c2
      try simp only [beq_iff_eq,decide_eq_true_eq] at c2
      try rw [Bool.eq_iff_iff] at g100
      try simp only [beq_iff_eq,decide_eq_true_eq] at g100
      cases b1<;>cases b2<;>cases b3<;>cases b4<;>first|contradiction|(exfalso;omega)|(simp only [patS]<;>omega)
    ·first|(rw [if_neg hh];done)|(exfalso;omega)|(rw [if_neg hh];simp;done)
   simp only[↓cqA,cqB]at c1
   refine qr (qa (qd (qd (qb (zA E (qe E qap E) (zA E (qi E qQ E E E E E) (qH (avs:=[_,_,_]) true E E E zD qdf E E (qjq p.kind 2 6) E E ?_)))))));refine zA E (qaB E E) (zX E (qE 64 E (fun g64=>?_) (fun g64=>?_)))
   ·simp only[↓cqA,cqB]at g64
    refine zY E (zY E (zY E (zY E (zY E (zA E (qk E E E) (zX E (zY E (zY E (zY E (zY E (zA E (qk E E E) (zX E (zY E (zY E (zY E (zY E (zA E (qk E E E) (zX E (zY E (zY E (zY E (zY E (zY E ?_)))))))))))))))))))))))
    refine zY E (zY E (zY E (zA E (qk E E E) (zK (qa2 E (qd ?_))))));refine qb (zX E (zK (qn (qm (zI hL (qg E qh) ?_ ?_)))))
    ·rfl
    refine ⟨q7 ?_,rfl⟩
    rw [patB,qdk]
    clear ih hwl hwr hwc hdL hdR hdC hhd hp htw hdt
    simp only [hdl,hdr,hdc] at*
    generalize p.l.length=L,p.r.length=R,p.c.length=C,patB d (hdP p.l)=b1,patB d (hdP p.r)=b2,patB d (hdP p.c)=b3,qb2 p.t=b4,mayT p.t=b5,p.t.kind=tk,p.rel=q,p.kind=k at*
    clear hdl hdr hdc
    rw [Bool.eq_iff_iff]
    by_cases hh:L≤1∧R≤1∧C≤1
    ·rw [if_pos hh]
     by_cases hk:k=1
     ·rw [if_pos hk]
      cases b5<;>first|(simp_all;done)|(simp_all;omega)
     ·rw [if_neg hk]
      try rw [Bool.eq_iff_iff] at c2
      try simp only [beq_iff_eq,decide_eq_true_eq] at c2
      try rw [Bool.eq_iff_iff] at g100
      try simp only [beq_iff_eq,decide_eq_true_eq] at g100
      cases b1<;>cases b2<;>cases b3<;>cases b4<;>first|contradiction|(exfalso;omega)|(simp only [patS]<;>omega)
    ·first|(rw [if_neg hh];done)|(exfalso;omega)|(rw [if_neg hh];simp;done)
   simp only[↓cqA,cqB]at g64
   refine zZ E (qe E qa6 E) (zZ E (qi E qz E E E E E) (zZ E (qaF E qaJ E qd4 E E) (zZ E (qai (avs:=[_,_]) true E qbg E E (qss p.t hdt htw) (fun _=>rfl) E) (zZ E (qaB E E) (zA E (qk E E E) (zX E (qE 71 E (fun g71=>?_) (fun g71=>?_))))))))
   ·simp only[↓cqA,cqB]at g71
    refine zY E (zY E (zY E (zY E (zA E (qk E E E) (zX E (zY E (zY E (zY E (zY E (zA E (qk E E E) (zX E (zY E (zY E (zY E (zY E (zY E (zY E ?_)))))))))))))))))
    refine zY E (zY E (zA E (qk E E E) (zK (qa2 E (qd (qb ?_))))));refine zX E (zK (qn (qm (zI hL (qg E qh) ?_ ?_))))
    ·rfl
    refine ⟨q7 ?_,rfl⟩
    rw [patB,qdk]
    clear ih hwl hwr hwc hdL hdR hdC hhd hp htw hdt
    simp only [hdl,hdr,hdc] at*
    generalize p.l.length=L,p.r.length=R,p.c.length=C,patB d (hdP p.l)=b1,patB d (hdP p.r)=b2,patB d (hdP p.c)=b3,qb2 p.t=b4,mayT p.t=b5,p.t.kind=tk,p.rel=q,p.kind=k at*
    clear hdl hdr hdc
    rw [Bool.eq_iff_iff]
    by_cases hh:L≤1∧R≤1∧C≤1
    ·rw [if_pos hh]
     by_cases hk:k=1
     ·rw [if_pos hk]
      cases b5<;>first|(simp_all;done)|(simp_all;omega)
     ·rw [if_neg hk]
      try rw [Bool.eq_iff_iff] at c2
      try simp only [beq_iff_eq,decide_eq_true_eq] at c2
      try rw [Bool.eq_iff_iff] at g100
      try simp only [beq_iff_eq,decide_eq_true_eq] at g100
      cases b1<;>cases b2<;>cases b3<;>cases b4<;>first|contradiction|(exfalso;omega)|(simp only [patS]<;>omega)
    ·first|(rw [if_neg hh];done)|(exfalso;omega)|(rw [if_neg hh];simp;done)
   simp only[↓cqA,cqB]at g71
   refine zZ E (qe E qaP E) (zZ E (qi E qB E E E E E) (zZ E (qu E qy E) (zZ E (qj E E E E) (zA E (qk E E E) (zX E (qE 77 E (fun g77=>?_) (fun g77=>?_)))))))
   ·simp only[↓cqA,cqB]at g77
    refine zY E (zY E (zY E (zY E (zA E (qk E E E) (zX E (zY E (zY E (zY E (zY E (zY E (zY E ?_)))))))))))
    refine zY E (zY E (zA E (qk E E E) (zK (qa2 E (qd (qb ?_))))));refine zX E (zK (qn (qm (zI hL (qg E qh) ?_ ?_))))
    ·rfl
    refine ⟨q7 ?_,rfl⟩
    rw [patB,qdk]
    clear ih hwl hwr hwc hdL hdR hdC hhd hp htw hdt
    simp only [hdl,hdr,hdc] at*
    generalize p.l.length=L,p.r.length=R,p.c.length=C,patB d (hdP p.l)=b1,patB d (hdP p.r)=b2,patB d (hdP p.c)=b3,qb2 p.t=b4,mayT p.t=b5,p.t.kind=tk,p.rel=q,p.kind=k at*
    clear hdl hdr hdc
    rw [Bool.eq_iff_iff]
    by_cases hh:L≤1∧R≤1∧C≤1
    ·rw [if_pos hh]
     by_cases hk:k=1
     ·rw [if_pos hk]
      cases b5<;>first|(simp_all;done)|(simp_all;omega)
     ·rw [if_neg hk]
      try rw [Bool.eq_iff_iff] at c2
      try simp only [beq_iff_eq,decide_eq_true_eq] at c2
      try rw [Bool.eq_iff_iff] at g100
      try simp only [beq_iff_eq,decide_eq_true_eq] at g100
      cases b1<;>cases b2<;>cases b3<;>cases b4<;>first|contradiction|(exfalso;omega)|(simp only [patS]<;>omega)
    ·first|(rw [if_neg hh];done)|(exfalso;omega)|(rw [if_neg hh];simp;done)
   simp only[↓cqA,cqB]at g77
   refine zZ E (qe E qaO E) (zZ E (qi E qB E E E E E) (zZ E (qu E qy E) (zZ E (qj E E E E) (zA E (qk E E E) (zX E (qE 83 E (fun g83=>?_) (fun g83=>?_)))))))
   ·simp only[↓cqA,cqB]at g83
    refine zY E (zY E (zY E (zY E (zY E (zY E ?_)))))
    refine zY E (zY E (zA E (qk E E E) (zK (qa2 E (qd (qb ?_))))));refine zX E (zK (qn (qm (zI hL (qg E qh) ?_ ?_))))
    ·rfl
    refine ⟨q7 ?_,rfl⟩
    rw [patB,qdk]
    clear ih hwl hwr hwc hdL hdR hdC hhd hp htw hdt
    simp only [hdl,hdr,hdc] at*
    generalize p.l.length=L,p.r.length=R,p.c.length=C,patB d (hdP p.l)=b1,patB d (hdP p.r)=b2,patB d (hdP p.c)=b3,qb2 p.t=b4,mayT p.t=b5,p.t.kind=tk,p.rel=q,p.kind=k at*
    clear hdl hdr hdc
    rw [Bool.eq_iff_iff]
    by_cases hh:L≤1∧R≤1∧C≤1
    ·rw [if_pos hh]
     by_cases hk:k=1
     ·rw [if_pos hk]
      cases b5<;>first|(simp_all;done)|(simp_all;omega)
     ·rw [if_neg hk]
      try rw [Bool.eq_iff_iff] at c2
      try simp only [beq_iff_eq,decide_eq_true_eq] at c2
      try rw [Bool.eq_iff_iff] at g100
      try simp only [beq_iff_eq,decide_eq_true_eq] at g100
      cases b1<;>cases b2<;>cases b3<;>cases b4<;>first|contradiction|(exfalso;omega)|(simp only [patS]<;>omega)
    ·first|(rw [if_neg hh];done)|(exfalso;omega)|(rw [if_neg hh];simp;done)
   simp only[↓cqA,cqB]at g83
   refine zZ E (qe E qap E) (zZ E (qi E qQ E E E E E) (zZ E (qj E E E E) (zZ E (qe E qaD E) (zZ E (qi E qB E E E E E) (zZ E (qu E qy E) (zZ E (qj E E E E) (zZ E (qrG E qi7 E E) (zA E (qk E E E) (zK (qo E (fun c2=>?_) (fun c2=>?_)))))))))))
   ·simp only[↓cqA,cqB]at c2
    refine qd (qb (zX E (zK (qn (qm (zI hL (qg E qh) ?_ ?_))))))
    ·rfl
    refine ⟨q7 ?_,rfl⟩
    rw [patB,qdk]
    clear ih hwl hwr hwc hdL hdR hdC hhd hp htw hdt
    simp only [hdl,hdr,hdc] at*
    generalize p.l.length=L,p.r.length=R,p.c.length=C,patB d (hdP p.l)=b1,patB d (hdP p.r)=b2,patB d (hdP p.c)=b3,qb2 p.t=b4,mayT p.t=b5,p.t.kind=tk,p.rel=q,p.kind=k at*
    clear hdl hdr hdc
    rw [Bool.eq_iff_iff]
    by_cases hh:L≤1∧R≤1∧C≤1
    ·rw [if_pos hh]
     by_cases hk:k=1
     ·rw [if_pos hk]
      cases b5<;>first|(simp_all;done)|(simp_all;omega)
     ·rw [if_neg hk]
      try rw [Bool.eq_iff_iff] at c2
      try simp only [beq_iff_eq,decide_eq_true_eq] at c2
      try rw [Bool.eq_iff_iff] at g100
      try simp only [beq_iff_eq,decide_eq_true_eq] at g100
      cases b1<;>cases b2<;>cases b3<;>cases b4<;>first|contradiction|(exfalso;omega)|(simp only [patS]<;>omega)
    ·first|(rw [if_neg hh];done)|(exfalso;omega)|(rw [if_neg hh];simp;done)
   simp only[↓cqA,cqB]at c2
   refine qr (qa (qd (qd (qX 6 mixed E E E E (zU E (qe E qap E) (zU E (qi E qQ E E E E E) (zU E (qj E E E E) ?_)))))));refine zU E (qe E qaT E) (zU E (qi E qQ E E E E E) ?_)
   refine zU E (qai (avs:=[_,_,_]) true E qdf E E (qjq p.rel 1 13) (fun _=>rfl) E) (qaq ⟨rfl,rfl,?_⟩);refine zA E (qrG E qi7 E E) (zX E (qE 100 E (fun g100=>?_) (fun g100=>?_)))
   ·simp only[↓cqA,cqB]at g100
    refine zY E (zY E (zY E (zY E (qa8 E E E zD E zD (qa8 E E E zD E zD ?_)))))
    refine qa8 E E E zD E zD (zY E (zA E (qk E E E) (zK (qa2 E (qd (qb ?_))))));refine zX E (zK (qn (qm (zI hL (qg E qh) ?_ ?_))))
    ·rfl
    refine ⟨q7 ?_,rfl⟩
    rw [patB,qdk]
    clear ih hwl hwr hwc hdL hdR hdC hhd hp htw hdt
    simp only [hdl,hdr,hdc] at*
    generalize p.l.length=L,p.r.length=R,p.c.length=C,patB d (hdP p.l)=b1,patB d (hdP p.r)=b2,patB d (hdP p.c)=b3,qb2 p.t=b4,mayT p.t=b5,p.t.kind=tk,p.rel=q,p.kind=k at*
    clear hdl hdr hdc
    rw [Bool.eq_iff_iff]
    by_cases hh:L≤1∧R≤1∧C≤1
    ·rw [if_pos hh]
     by_cases hk:k=1
     ·rw [if_pos hk]
      cases b5<;>first|(simp_all;done)|(simp_all;omega)
     ·rw [if_neg hk]
      try rw [Bool.eq_iff_iff] at c2
      try simp only [beq_iff_eq,decide_eq_true_eq] at c2
      try rw [Bool.eq_iff_iff] at g100
      try simp only [beq_iff_eq,decide_eq_true_eq] at g100
      cases b1<;>cases b2<;>cases b3<;>cases b4<;>first|contradiction|(exfalso;omega)|(simp only [patS]<;>omega)
    ·first|(rw [if_neg hh];done)|(exfalso;omega)|(rw [if_neg hh];simp;done)
   simp only[↓cqA,cqB]at g100
   refine zZ E (qe E qap E) (zZ E (qi E qQ E E E E E) (zZ E (qj E E E E) (zZ E (ql (.inl E) E) (qE 104 E (fun g104=>?_) (fun g104=>?_)))))
   ·simp only[↓cqA,cqB]at g104
    refine zZ E (qe E qaT E) (zZ E (qi E qQ E E E E E) (zZ E (qj E E E E) (zZ E (qk E E E) (zA E (qk E E E) (zK (qo E (fun c3=>?_) (fun c3=>?_)))))))
    ·simp only[↓cqA,cqB]at c3
     refine qd (qb (zX E (zK (qn (qm (zI hL (qg E qh) ?_ ?_))))))
     ·rfl
     refine ⟨q7 ?_,rfl⟩
     rw [patB,qdk]
     clear ih hwl hwr hwc hdL hdR hdC hhd hp htw hdt
     simp only [hdl,hdr,hdc] at*
     generalize p.l.length=L,p.r.length=R,p.c.length=C,patB d (hdP p.l)=b1,patB d (hdP p.r)=b2,patB d (hdP p.c)=b3,qb2 p.t=b4,mayT p.t=b5,p.t.kind=tk,p.rel=q,p.kind=k at*
     clear hdl hdr hdc
     rw [Bool.eq_iff_iff]
     by_cases hh:L≤1∧R≤1∧C≤1
     ·rw [if_pos hh]
      by_cases hk:k=1
      ·rw [if_pos hk]
       cases b5<;>first|(simp_all;done)|(simp_all;omega)
      ·rw [if_neg hk]
       try rw [Bool.eq_iff_iff] at c2
       try simp only [beq_iff_eq,decide_eq_true_eq] at c2
       try rw [Bool.eq_iff_iff] at g100
       try simp only [beq_iff_eq,decide_eq_true_eq] at g100
       cases b1<;>cases b2<;>cases b3<;>cases b4<;>first|contradiction|(exfalso;omega)|(simp only [patS]<;>omega)
     ·first|(rw [if_neg hh];done)|(exfalso;omega)|(rw [if_neg hh];simp;done)
    simp only[↓cqA,cqB]at c3
    refine qr (qa (qd (qb (zA E (qe E qaP E) (zA E (qi E qB E E E E E) (zA E (qp E qy E E zO (qba (qdO zO))) (zA E (qD E qL E E) (zX E (zA E (qa3 E E E zO) (qH (avs:=[_,_]) true E E E zD qbl E E (ih (e-1) zO D (hdP p.l) hwl (hdL _ (hhd zO))) E E (zX E (qE 117 E (fun g117=>?_) (fun g117=>?_)))))))))))))
    ·refine zZ E (qe E qaO E) (zZ E (qi E qB E E E E E) (zZ E (qp E qy E E zO (qba (qdO zO))) (zZ E (qD E qL E E) (zZ E (ql (.inl E) E) (zZ E (qa3 E E E zO) (zZ E (qai (avs:=[_,_]) true E qbl E E (ih (e-1) zO D (hdP p.r) hwr (hdR _ (hhd zO))) (fun _=>rfl) E) (zA E (qk E E E) (zX E (qE 126 E (fun g126=>?_) (fun g126=>?_))))))))))
     ·refine zZ E (qe E qaD E) (zZ E (qi E qB E E E E E) (zZ E (qu E qy E) (zZ E (qj E E E E) (zZ E (ql (.inl E) E) (qE 131 E (fun g131=>?_) (fun g131=>?_))))))
      ·simp only[↓cqA,cqB]at g131
       refine zY E (zY E (zY E (zY E (zY E (zY E (zY E (zZ E (qk E E E) (zA E (qk E E E) (zX E (zK (qn (zI hL (qg E qh) ?_ ?_))))))))))))
       ·rfl
       refine ⟨q7 ?_,rfl⟩
       rw [patB,qdk]
       clear ih hwl hwr hwc hdL hdR hdC hhd hp htw hdt
       simp only [hdl,hdr,hdc] at*
       generalize p.l.length=L,p.r.length=R,p.c.length=C,patB d (hdP p.l)=b1,patB d (hdP p.r)=b2,patB d (hdP p.c)=b3,qb2 p.t=b4,mayT p.t=b5,p.t.kind=tk,p.rel=q,p.kind=k at*
       clear hdl hdr hdc
       rw [Bool.eq_iff_iff]
       by_cases hh:L≤1∧R≤1∧C≤1
       ·rw [if_pos hh]
        by_cases hk:k=1
        ·rw [if_pos hk]
         cases b5<;>first|(simp_all;done)|(simp_all;omega)
        ·rw [if_neg hk]
         try rw [Bool.eq_iff_iff] at c2
         try simp only [beq_iff_eq,decide_eq_true_eq] at c2
         try rw [Bool.eq_iff_iff] at g100
         try simp only [beq_iff_eq,decide_eq_true_eq] at g100
         cases b1<;>cases b2<;>cases b3<;>cases b4<;>first|contradiction|(exfalso;omega)|(simp only [patS]<;>omega)
       ·first|(rw [if_neg hh];done)|(exfalso;omega)|(rw [if_neg hh];simp;done)
      simp only[↓cqA,cqB]at g131
      refine zZ E (qe E qaD E) (zZ E (qi E qB E E E E E) (zZ E (qp E qy E E zO (qba (qdO zO))) (zZ E (qD E qL E E) (zZ E (ql (.inl E) E) (zZ E (qa3 E E E zO) (zZ E (qai (avs:=[_,_]) true E qbl E E (ih (e-1) zO D (hdP p.c) hwc (hdC _ (hhd zO))) (fun _=>rfl) E) (zZ E (qk E E E) (zA E (qk E E E) ?_))))))))
      refine zX E (zK (qn (zI hL (qg E qh) ?_ ?_)))
      ·rfl
      refine ⟨q7 ?_,rfl⟩
      rw [patB,qdk]
      clear ih hwl hwr hwc hdL hdR hdC hhd hp htw hdt
      simp only [hdl,hdr,hdc] at*
      generalize p.l.length=L,p.r.length=R,p.c.length=C,patB d (hdP p.l)=b1,patB d (hdP p.r)=b2,patB d (hdP p.c)=b3,qb2 p.t=b4,mayT p.t=b5,p.t.kind=tk,p.rel=q,p.kind=k at*
      clear hdl hdr hdc
      rw [Bool.eq_iff_iff]
      by_cases hh:L≤1∧R≤1∧C≤1
      ·rw [if_pos hh]
       by_cases hk:k=1
       ·rw [if_pos hk]
        cases b5<;>first|(simp_all;done)|(simp_all;omega)
       ·rw [if_neg hk]
        try rw [Bool.eq_iff_iff] at c2
        try simp only [beq_iff_eq,decide_eq_true_eq] at c2
        try rw [Bool.eq_iff_iff] at g100
        try simp only [beq_iff_eq,decide_eq_true_eq] at g100
        cases b1<;>cases b2<;>cases b3<;>cases b4<;>first|contradiction|(exfalso;omega)|(simp only [patS]<;>omega)
      ·first|(rw [if_neg hh];done)|(exfalso;omega)|(rw [if_neg hh];simp;done)
     refine zY E (zY E (zY E (zY E (zY E (qa8 E E E zD E zD (qa8 E E E zD E zD (qa8 E E E zD E zD (qa8 E E E zD E zD (qa8 E E E zD E zD (qa8 E E E zD E zD (qa8 E E E zD E zD (zY E (zA E (qk E E E) (zX E (zK (qn (zI hL (qg E qh) ?_ ?_)))))))))))))))))
     ·rfl
     refine ⟨q7 ?_,rfl⟩
     rw [patB,qdk]
     clear ih hwl hwr hwc hdL hdR hdC hhd hp htw hdt
     simp only [hdl,hdr,hdc] at*
     generalize p.l.length=L,p.r.length=R,p.c.length=C,patB d (hdP p.l)=b1,patB d (hdP p.r)=b2,patB d (hdP p.c)=b3,qb2 p.t=b4,mayT p.t=b5,p.t.kind=tk,p.rel=q,p.kind=k at*
     clear hdl hdr hdc
     rw [Bool.eq_iff_iff]
     by_cases hh:L≤1∧R≤1∧C≤1
     ·rw [if_pos hh]
      by_cases hk:k=1
      ·rw [if_pos hk]
       cases b5<;>first|(simp_all;done)|(simp_all;omega)
      ·rw [if_neg hk]
       try rw [Bool.eq_iff_iff] at c2
       try simp only [beq_iff_eq,decide_eq_true_eq] at c2
       try rw [Bool.eq_iff_iff] at g100
       try simp only [beq_iff_eq,decide_eq_true_eq] at g100
       cases b1<;>cases b2<;>cases b3<;>cases b4<;>first|contradiction|(exfalso;omega)|(simp only [patS]<;>omega)
     ·first|(rw [if_neg hh];done)|(exfalso;omega)|(rw [if_neg hh];simp;done)
    refine zY E (zY E (zY E (zY E (zY E (zY E (zY E (zA E (qk E E E) (zX E (zY E (zY E (zY E (zY E (zY E (qa8 E E E zD E zD (qa8 E E E zD E zD (qa8 E E E zD E zD (qa8 E E E zD E zD ?_)))))))))))))))))
    refine qa8 E E E zD E zD (qa8 E E E zD E zD (qa8 E E E zD E zD (zY E (zA E (qk E E E) (zX E (zK ?_))))));refine qn (zI hL (qg E qh) ?_ ?_)
    ·rfl
    refine ⟨q7 ?_,rfl⟩
    rw [patB,qdk]
    clear ih hwl hwr hwc hdL hdR hdC hhd hp htw hdt
    simp only [hdl,hdr,hdc] at*
    generalize p.l.length=L,p.r.length=R,p.c.length=C,patB d (hdP p.l)=b1,patB d (hdP p.r)=b2,patB d (hdP p.c)=b3,qb2 p.t=b4,mayT p.t=b5,p.t.kind=tk,p.rel=q,p.kind=k at*
    clear hdl hdr hdc
    rw [Bool.eq_iff_iff]
    by_cases hh:L≤1∧R≤1∧C≤1
    ·rw [if_pos hh]
     by_cases hk:k=1
     ·rw [if_pos hk]
      cases b5<;>first|(simp_all;done)|(simp_all;omega)
     ·rw [if_neg hk]
      try rw [Bool.eq_iff_iff] at c2
      try simp only [beq_iff_eq,decide_eq_true_eq] at c2
      try rw [Bool.eq_iff_iff] at g100
      try simp only [beq_iff_eq,decide_eq_true_eq] at g100
      cases b1<;>cases b2<;>cases b3<;>cases b4<;>first|contradiction|(exfalso;omega)|(simp only [patS]<;>omega)
    ·first|(rw [if_neg hh];done)|(exfalso;omega)|(rw [if_neg hh];simp;done)
   simp only[↓cqA,cqB]at g104
   refine zY E (zY E (zY E (zZ E (qk E E E) (zA E (qk E E E) (zK (qaA E ?_))))));refine qr (qa (qd (qb (zA E (qe E qaP E) (zA E (qi E qB E E E E E) (zA E (qp E qy E E zO (qba (qdO zO))) (zA E (qD E qL E E) (zX E (zA E (qa3 E E E zO) (qH (avs:=[_,_]) true E E E zD qbl E E (ih (e-1) zO D (hdP p.l) hwl (hdL _ (hhd zO))) E E (zX E (qE 117 E (fun g117=>?_) (fun g117=>?_)))))))))))))
   ·refine zZ E (qe E qaO E) (zZ E (qi E qB E E E E E) (zZ E (qp E qy E E zO (qba (qdO zO))) (zZ E (qD E qL E E) (zZ E (ql (.inl E) E) (zZ E (qa3 E E E zO) (zZ E (qai (avs:=[_,_]) true E qbl E E (ih (e-1) zO D (hdP p.r) hwr (hdR _ (hhd zO))) (fun _=>rfl) E) (zA E (qk E E E) (zX E (qE 126 E (fun g126=>?_) (fun g126=>?_))))))))))
    ·refine zZ E (qe E qaD E) (zZ E (qi E qB E E E E E) (zZ E (qu E qy E) (zZ E (qj E E E E) (zZ E (ql (.inl E) E) (qE 131 E (fun g131=>?_) (fun g131=>?_))))))
     ·simp only[↓cqA,cqB]at g131
      refine zY E (zY E (zY E (zY E (zY E (zY E (zY E (zZ E (qk E E E) (zA E (qk E E E) (zX E (zK (qn (zI hL (qg E qh) ?_ ?_))))))))))))
      ·rfl
      refine ⟨q7 ?_,rfl⟩
      rw [patB,qdk]
      clear ih hwl hwr hwc hdL hdR hdC hhd hp htw hdt
      simp only [hdl,hdr,hdc] at*
      generalize p.l.length=L,p.r.length=R,p.c.length=C,patB d (hdP p.l)=b1,patB d (hdP p.r)=b2,patB d (hdP p.c)=b3,qb2 p.t=b4,mayT p.t=b5,p.t.kind=tk,p.rel=q,p.kind=k at*
      clear hdl hdr hdc
      rw [Bool.eq_iff_iff]
      by_cases hh:L≤1∧R≤1∧C≤1
      ·rw [if_pos hh]
       by_cases hk:k=1
       ·rw [if_pos hk]
        cases b5<;>first|(simp_all;done)|(simp_all;omega)
       ·rw [if_neg hk]
        try rw [Bool.eq_iff_iff] at c2
        try simp only [beq_iff_eq,decide_eq_true_eq] at c2
        try rw [Bool.eq_iff_iff] at g100
        try simp only [beq_iff_eq,decide_eq_true_eq] at g100
        cases b1<;>cases b2<;>cases b3<;>cases b4<;>first|contradiction|(exfalso;omega)|(simp only [patS]<;>omega)
      ·first|(rw [if_neg hh];done)|(exfalso;omega)|(rw [if_neg hh];simp;done)
     simp only[↓cqA,cqB]at g131
     refine zZ E (qe E qaD E) (zZ E (qi E qB E E E E E) (zZ E (qp E qy E E zO (qba (qdO zO))) (zZ E (qD E qL E E) (zZ E (ql (.inl E) E) (zZ E (qa3 E E E zO) (zZ E (qai (avs:=[_,_]) true E qbl E E (ih (e-1) zO D (hdP p.c) hwc (hdC _ (hhd zO))) (fun _=>rfl) E) (zZ E (qk E E E) (zA E (qk E E E) ?_))))))))
     refine zX E (zK (qn (zI hL (qg E qh) ?_ ?_)))
     ·rfl
     refine ⟨q7 ?_,rfl⟩
     rw [patB,qdk]
     clear ih hwl hwr hwc hdL hdR hdC hhd hp htw hdt
     simp only [hdl,hdr,hdc] at*
     generalize p.l.length=L,p.r.length=R,p.c.length=C,patB d (hdP p.l)=b1,patB d (hdP p.r)=b2,patB d (hdP p.c)=b3,qb2 p.t=b4,mayT p.t=b5,p.t.kind=tk,p.rel=q,p.kind=k at*
     clear hdl hdr hdc
     rw [Bool.eq_iff_iff]
     by_cases hh:L≤1∧R≤1∧C≤1
     ·rw [if_pos hh]
      by_cases hk:k=1
      ·rw [if_pos hk]
       cases b5<;>first|(simp_all;done)|(simp_all;omega)
      ·rw [if_neg hk]
       try rw [Bool.eq_iff_iff] at c2
       try simp only [beq_iff_eq,decide_eq_true_eq] at c2
       try rw [Bool.eq_iff_iff] at g100
       try simp only [beq_iff_eq,decide_eq_true_eq] at g100
       cases b1<;>cases b2<;>cases b3<;>cases b4<;>first|contradiction|(exfalso;omega)|(simp only [patS]<;>omega)
     ·first|(rw [if_neg hh];done)|(exfalso;omega)|(rw [if_neg hh];simp;done)
    refine zY E (zY E (zY E (zY E (zY E (qa8 E E E zD E zD (qa8 E E E zD E zD (qa8 E E E zD E zD (qa8 E E E zD E zD (qa8 E E E zD E zD (qa8 E E E zD E zD (qa8 E E E zD E zD (zY E (zA E (qk E E E) (zX E (zK (qn (zI hL (qg E qh) ?_ ?_)))))))))))))))))
    ·rfl
    refine ⟨q7 ?_,rfl⟩
    rw [patB,qdk]
    clear ih hwl hwr hwc hdL hdR hdC hhd hp htw hdt
    simp only [hdl,hdr,hdc] at*
    generalize p.l.length=L,p.r.length=R,p.c.length=C,patB d (hdP p.l)=b1,patB d (hdP p.r)=b2,patB d (hdP p.c)=b3,qb2 p.t=b4,mayT p.t=b5,p.t.kind=tk,p.rel=q,p.kind=k at*
    clear hdl hdr hdc
    rw [Bool.eq_iff_iff]
    by_cases hh:L≤1∧R≤1∧C≤1
    ·rw [if_pos hh]
     by_cases hk:k=1
     ·rw [if_pos hk]
      cases b5<;>first|(simp_all;done)|(simp_all;omega)
     ·rw [if_neg hk]
      try rw [Bool.eq_iff_iff] at c2
      try simp only [beq_iff_eq,decide_eq_true_eq] at c2
      try rw [Bool.eq_iff_iff] at g100
      try simp only [beq_iff_eq,decide_eq_true_eq] at g100
      cases b1<;>cases b2<;>cases b3<;>cases b4<;>first|contradiction|(exfalso;omega)|(simp only [patS]<;>omega)
    ·first|(rw [if_neg hh];done)|(exfalso;omega)|(rw [if_neg hh];simp;done)
   refine zY E (zY E (zY E (zY E (zY E (zY E (zY E (zA E (qk E E E) (zX E (zY E (zY E (zY E (zY E (zY E (qa8 E E E zD E zD (qa8 E E E zD E zD (qa8 E E E zD E zD (qa8 E E E zD E zD ?_)))))))))))))))))
   refine qa8 E E E zD E zD (qa8 E E E zD E zD (qa8 E E E zD E zD (zY E (zA E (qk E E E) (zX E (zK ?_))))));refine qn (zI hL (qg E qh) ?_ ?_)
   ·rfl
   refine ⟨q7 ?_,rfl⟩
   rw [patB,qdk]
   clear ih hwl hwr hwc hdL hdR hdC hhd hp htw hdt
   simp only [hdl,hdr,hdc] at*
   generalize p.l.length=L,p.r.length=R,p.c.length=C,patB d (hdP p.l)=b1,patB d (hdP p.r)=b2,patB d (hdP p.c)=b3,qb2 p.t=b4,mayT p.t=b5,p.t.kind=tk,p.rel=q,p.kind=k at*
   clear hdl hdr hdc
   rw [Bool.eq_iff_iff]
   by_cases hh:L≤1∧R≤1∧C≤1
   ·rw [if_pos hh]
    by_cases hk:k=1
    ·rw [if_pos hk]
     cases b5<;>first|(simp_all;done)|(simp_all;omega)
    ·rw [if_neg hk]
     try rw [Bool.eq_iff_iff] at c2
     try simp only [beq_iff_eq,decide_eq_true_eq] at c2
     try rw [Bool.eq_iff_iff] at g100
     try simp only [beq_iff_eq,decide_eq_true_eq] at g100
     cases b1<;>cases b2<;>cases b3<;>cases b4<;>first|contradiction|(exfalso;omega)|(simp only [patS]<;>omega)
   ·first|(rw [if_neg hh];done)|(exfalso;omega)|(rw [if_neg hh];simp;done)
theorem qkA (D:Nat)(p:Pt)(hp:p.wf)(hd:dlP D p):PF 59 [ptA false p] (bv (okP p)):=by
 refine qI Tryz.func59 E Tryz.ntmps59 zL fun c hL hQ hDD=>(qd (qb (qt E E zD (q6 1 E E E) E (zX E (zK (qd ?_))))));refine qb (zA E (qF E qL E E E E) (qH (avs:=[_,_]) true E E E zD qbl E E (qkw 8 zO 8 E D p hp hd) E E (zX E (qE 5 E (fun g5=>?_) (fun g5=>?_)))))
 ·refine zZ E (qF E qL E E E E) (zZ E (qai (avs:=[_]) true E qcX E E (qqF 8 zO p hp (by assumption)) (fun _=>rfl) E) (zZ E (qj E E E E) (zA E (qk E E E) (zX E (zK (qn (zI hL (qg E qh) ?_ ?_)))))))
  ·rfl
  refine ⟨q7 ?_,rfl⟩
  rw [Bool.eq_iff_iff,qh9]
  simp_all
 refine zY E (zY E (zY E (zA E (qk E E E) (zX E (zK (qn (zI hL (qg E qh) ?_ ?_)))))))
 ·rfl
 refine ⟨q7 ?_,rfl⟩
 rw [Bool.eq_iff_iff,qh9]
 simp_all
def qcP:Nat→Int→Pt→Int
 | 0,_,_=>0
 | d+1,n,p=>
   if p.kind=1 then n
   else if p.kind=4 then min 1000 (qcP d n (hdP p.l))+min 1000 (qcP d n (hdP p.r))
   else min 1048576 (min 1000 (qcP d n (hdP p.l))*min 1000 (qcP d n (hdP p.r))*(if p.kind=5 then 1+min 1000 (qcP d n (hdP p.c)) else 1))
theorem qeu:∀ (d:Nat) (n:Int) (p:Pt),0≤n→n≤1000000000→0≤qcP d n p∧qcP d n p≤1000000000
 | 0,n,p,h0,h1=>by simp [qcP]
 | d+1,n,p,h0,h1=>by
   have a1:=qeu d n (hdP p.l) h0 h1
   have a2:=qeu d n (hdP p.r) h0 h1
   have a3:=qeu d n (hdP p.c) h0 h1
   rw [qcP]
   split
   ·omega
   ·split
    ·omega
    ·have hx:0≤min 1000 (qcP d n (hdP p.l)):=by omega
     have hy:0≤min 1000 (qcP d n (hdP p.r)):=by omega
     have hz:0≤(if p.kind=5 then 1+min 1000 (qcP d n (hdP p.c)) else 1):=by split<;>omega
     have:=Int.mul_nonneg (Int.mul_nonneg hx hy) hz
     omega
theorem mul_le {x y a b:Int}(hx:0≤x)(hxa:x≤a)(hy:0≤y)(hyb:y≤b):0≤x*y∧x*y≤a*b:=
 ⟨Int.mul_nonneg hx hy,Int.mul_le_mul hxa hyb hy (by omega)⟩
theorem qrz:∀ (d:Nat) (p:Pt),p.wf→patB d p=true→∀ n:Int,0≤n→n≤1000000000→PF 60 [ptA false p,iv n] (iv (qcP d n p))
 | 0,p,_,h=>by rw [patB] at h;cases h
 | d+1,p,hp,hb=>fun n h0 h1=>by
   have ih:=fun q hq hb=>qrz d q hq hb n h0 h1
   have hdl:=qaQ p.l
   have hdr:=qaQ p.r
   have hdc:=qaQ p.c
   have hwl:=qds hp.2.2.2.1.2
   have hwr:=qds hp.2.2.2.2.1.2
   have hwc:=qds hp.2.2.2.2.2.2
   have a1:=qeu d n (hdP p.l) h0 h1
   have a2:=qeu d n (hdP p.r) h0 h1
   have a3:=qeu d n (hdP p.c) h0 h1
   by_cases hk:p.kind=1
   ·rw [qcP,if_pos hk]
    refine qI Tryz.func60 E Tryz.ntmps60 zL fun c hL hQ hDD=>(qd (qb (qt E E zD (q6 2 E E E) E (zX E (zK (qd ?_))))));refine qd (qb (zA E (qe E qap E) (zA E (qi E qQ E E E E E) (zA E (qj E E E E) (zK (qo E (fun c0=>?_) (fun c0=>?_)))))))
    ·simp only[↓cqA,cqB]at c0
     refine qd (qb (zX E (zX E (zK (qn (qm (zI hL (qg E qh) ?_ ?_)))))))
     ·rfl
     exact ⟨rfl,rfl⟩
    simp only[↓cqA,cqB]at c0
    omega
   ·obtain ⟨_,hl1,hr1,hc5,_,hbl,hbr,hbc,hc1⟩:=qdV hb hk
    rw [qcP,if_neg hk]
    rw [qkM 1000,qkM 1000,qkM 1000]
    have m1:=mul_le (x:=if qcP d n (hdP p.l)<1000 then qcP d n (hdP p.l) else 1000) (y:=if qcP d n (hdP p.r)<1000 then qcP d n (hdP p.r) else 1000) (a:=1000) (b:=1000) (by split<;>omega) (by split<;>omega) (by split<;>omega) (by split<;>omega)
    have m2:=mul_le (x:=(if qcP d n (hdP p.l)<1000 then qcP d n (hdP p.l) else 1000)*(if qcP d n (hdP p.r)<1000 then qcP d n (hdP p.r) else 1000)) (y:=if p.kind=5 then 1+(if qcP d n (hdP p.c)<1000 then qcP d n (hdP p.c) else 1000) else 1) (a:=1000*1000) (b:=1001) m1.1 m1.2 (by split<;>(try split)<;>omega) (by split<;>(try split)<;>omega)
    have z1:0≤(if qcP d n (hdP p.l)<1000 then qcP d n (hdP p.l) else 1000)∧(if qcP d n (hdP p.l)<1000 then qcP d n (hdP p.l) else 1000)≤1000:=by split<;>omega
    have z2:0≤(if qcP d n (hdP p.r)<1000 then qcP d n (hdP p.r) else 1000)∧(if qcP d n (hdP p.r)<1000 then qcP d n (hdP p.r) else 1000)≤1000:=by split<;>omega
    have z3:0≤(if qcP d n (hdP p.c)<1000 then qcP d n (hdP p.c) else 1000)∧(if qcP d n (hdP p.c)<1000 then qcP d n (hdP p.c) else 1000)≤1000:=by split<;>omega
    refine qI Tryz.func60 E Tryz.ntmps60 zL fun c hL hQ hDD=>(qd (qb (qt E E zD (q6 2 E E E) E (zX E (zK (qd ?_))))));refine qd (qb (zA E (qe E qap E) (zA E (qi E qQ E E E E E) (zA E (qj E E E E) (zK (qo E (fun c0=>?_) (fun c0=>?_)))))))
    ·simp only[↓cqA,cqB]at c0
     omega
    simp only[↓cqA,cqB]at c0
    refine qr (qa (qd (qX 15 mixed E E E E (zU E (qe E qaP E) (zU E (qi E qB E E E E E) (zU E (qp E qy E E zO (qba (qdO zO))) (zU E (qD E qL E E) (zU E (ql (.inl E) E) (zU E (qai (avs:=[_,_]) true E qcY E E (ih (hdP p.l) hwl hbl) (fun _=>rfl) E) (zU E (qi9 E E E) (zU E (qe E qaO E) (zU E (qi E qB E E E E E) ?_))))))))))))
    refine zU E (qp E qy E E zO (qba (qdO zO))) (zU E (qD E qL E E) (zU E (ql (.inl E) E) (zU E (qai (avs:=[_,_]) true E qcY E E (ih (hdP p.r) hwr hbr) (fun _=>rfl) E) (zU E (qi9 E E E) (zU E (ql (.inr E) E) ?_)))))
    refine qaq ⟨rfl,rfl,?_⟩;refine zX E (zK (qd (qb (zX E (zK (qdr ⟨[(2,.ptr 2 0),(5,iv (if qcP d n (hdP p.l)<1000 then qcP d n (hdP p.l) else 1000)),(6,iv (if qcP d n (hdP p.r)<1000 then qcP d n (hdP p.r) else 1000)),(7,iv (if p.kind=5 then 1+(if qcP d n (hdP p.c)<1000 then qcP d n (hdP p.c) else 1000) else 1))],[(2,.box (lift false (ptD p)))]⟩ ?_ ?_))))))
    ·refine qd (qb (zA E (qe E qap E) (zA E (qi E qQ E E E E E) (zA E (qj E E E E) (zK (qo E (fun c1=>?_) (fun c1=>?_)))))))
     ·simp only[↓cqA,cqB]at c1
      refine qb ?_;refine zA E (qe E qaD E) ?_;refine zA E (qi E qB E E E E E) ?_;refine zA E (qp E qy E E zO (qba (qdO (by have:=hc5.1 (by assumption);omega)))) ?_;refine zA E (qD E qL E E) (zX E (qH (avs:=[_,_]) true E E E zD qcY E E (ih (hdP p.c) hwc (hbc (by assumption))) E E (zA E (qi9 E E E) (zA E (qO E E E zO) (zX E (qc ?_))))))
      exact qaC (qC (zC E (zC E (zC E (SubT.cons (qaw E (by first|exact qan (by rw [if_pos (show p.kind=5 by assumption)])|exact qan (by rw [if_neg (show ¬ p.kind=5 by assumption)]))) SubT.nil)))) (SubO.cons (qU rfl (by rfl)) SubO.nil) E E (noL' (noL hL) _))
     simp only[↓cqA,cqB]at c1
     refine qr ?_
     exact qaC (qC (zC E (zC E (zC E (SubT.cons (qaw E (by first|exact qan (by rw [if_pos (show p.kind=5 by assumption)])|exact qan (by rw [if_neg (show ¬ p.kind=5 by assumption)]))) SubT.nil)))) (SubO.cons (qU rfl (by rfl)) SubO.nil) E E (noL' (noL hL) _))
    refine qd (qd (qb (zA E (qe E qap E) (zA E (qi E qQ E E E E E) (zA E (qj E E E E) (zK ?_))))));refine qo E (fun c2=>?_) (fun c2=>?_)
    ·simp only[↓cqA,cqB]at c2
     refine qd (qb (zX E (zX E (zA E (qO E E E zO) (zX E (zK ?_))))));refine qn (qm (zI hL (qg E qh) ?_ ?_))
     ·rfl
     refine ⟨qbx ?_,rfl⟩
     first
      | (rw [if_pos (show p.kind=4 by assumption)];done)
      | (rw [if_neg (show ¬ p.kind=4 by assumption),qkM];done)
      | trace_state
    simp only[↓cqA,cqB]at c2
    refine qr (qa (qd (qb (zX E (zX E (zA E (qrH E E E zO) (zX E (zA E (qrH E E E zO) (zA E (qi9 E E E) (zX E (zK (qn (zI hL (qg E qh) ?_ ?_)))))))))))))
    ·rfl
    refine ⟨qbx ?_,rfl⟩
    first
     | (rw [if_pos (show p.kind=4 by assumption)];done)
     | (rw [if_neg (show ¬ p.kind=4 by assumption),qkM];done)
     | trace_state
def qsf (p:Pt)(n:Int):Bool:=okP p&&decide (qcP 8 n p<30000)
theorem Light_ok (D:Nat)(p:Pt)(hp:p.wf)(hd:dlP D p)(n:Int)(h0:0≤n)(h1:n≤1000000000):PF 21 [ptA false p,iv n] (bv (qsf p n)):=by
 refine qI Tryz.func21 E Tryz.ntmps21 zL fun c hL hQ hDD=>(qd (qb (qt E E zD (q6 2 E E E) E (zX E (zK (qd ?_))))));refine qb (zA E (qF E qL E E E E) (qH (avs:=[_]) true E E E zD qel E E (qkA D p hp hd) E E (zX E (qE 7 E (fun g7=>?_) (fun g7=>?_)))))
 ·refine zZ E (qF E qL E E E E) (zZ E (ql (.inl E) E) (zZ E (qai (avs:=[_,_]) true E qcY E E (qrz 8 p hp ((qh9 p).1 (by assumption)).1 n h0 h1) (fun _=>rfl) E) (zZ E (qj E E E E) (zA E (qk E E E) (zX E (zK (qn (zI hL (qg E qh) ?_ ?_))))))))
  ·rfl
  refine ⟨q7 ?_,rfl⟩
  simp_all [qsf]
 refine zY E (zY E (zY E (zY E (zA E (qk E E E) (zX E (zK ?_))))));refine qn (zI hL (qg E qh) ?_ ?_)
 ·rfl
 refine ⟨q7 ?_,rfl⟩
 simp_all [qsf]
end Go.Proofs.YtpgceiijoedppaaGreat