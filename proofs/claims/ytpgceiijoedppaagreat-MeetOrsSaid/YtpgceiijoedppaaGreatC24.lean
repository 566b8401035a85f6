/- Part 24 of the proof: Gi, Gj, Gm, Gn. -/
import Derived.Test.YtpgceiijoedppaaGreatC23
set_option linter.unusedVariables false
set_option linter.unusedSimpArgs false
set_option maxRecDepth 8000
namespace Go.Proofs.YtpgceiijoedppaaGreat
open Go
variable {l:List Bd}{ps:List (Tm×Tm)}{t:Tm}
def eqBd (a b:Bd):Bool:=decide (a.name=b.name)&&eqT 5 a.t b.t
theorem qsS (a b:Bd)(hd:dle 5 a.t)(ha:a.wf)(hb:b.wf):PF 118 [.agg (lift false (bdD a)),.agg (lift false (bdD b))] (bv (eqBd a b)):=by
 have ha2:=ha.2
 have hb2:=hb.2
 refine qI Tryz.func118 E Tryz.ntmps118 zL fun c hL hQ hDD=>(qd (qb (qt E E zD (q6 2 E E E) E (qt E E zD (q6 3 E E E) E (zX E (zK ?_))))));refine qd (qb (zA E (qe E qa5 E) (zA E (qi E qar E E E E E) (zA E (qe E qa5 E) (zA E (qi E qar E E E E E) (zA E (qcH E E E E) (zX E (qE 10 E (fun g10=>?_) (fun g10=>?_)))))))))
 ·simp only[↓cqA,cqB]at g10
  refine zZ E (qe E qbc E) (zZ E (qi E qz E E E E E) (zZ E (qe E qbc E) (zZ E (qi E qz E E E E E) (zZ E (qai (avs:=[_,_]) true E qbg E E (qeT 5 a.t b.t hd ha2 hb2) (fun _=>rfl) E) (zA E (qk E E E) (zX E (zK (qn (zI hL (qg E qh) ?_ ?_)))))))))
  ·rfl
  refine ⟨q7 ?_,rfl⟩
  simp_all [eqBd]
 simp only[↓cqA,cqB]at g10
 refine zY E (zY E (zY E (zY E (zY E (zA E (qk E E E) (zX E (qc ?_)))))));refine qa (qn (zI hL (qg E qh) ?_ ?_))
 ·rfl
 refine ⟨q7 ?_,rfl⟩
 simp_all [eqBd]
def qjJ:List Bd→List Bd→Bool
 | [],[]=>true
 | a::l,b::m=>eqBd a b&&qjJ l m
 | _,_=>false
theorem qn7:∀ {l m:List Bd},l.length≠m.length→qjJ l m=false
 | [],[],h=>absurd E h
 | a::l,b::m,h=>by simp only [qjJ,qn7 (l:=l) (m:=m) (by simpa using h),Bool.and_false]
 | [],_::_,_=>rfl
 | _::_,[],_=>rfl
theorem qjl:∀ {l m:List Bd},l.length=m.length→(∀ (j:Nat) (a b:Bd),l[j]?=some a→m[j]?=some b→eqBd a b=true)→qjJ l m=true
 | [],[],_,_=>rfl
 | a::l,b::m,hl,h=>by
   have h0:=h 0 a b E E
   have ih:=qjl (l:=l) (m:=m) (by simpa using hl) (fun j x y hx hy=>h (j+1) x y (by simpa using hx) (by simpa using hy))
   simp [qjJ,h0,ih]
 | [],_::_,hl,_=>by simp at hl
 | _::_,[],hl,_=>by simp at hl
theorem qk2:∀ {l m:List Bd} (k:Nat) {a b:Bd},l[k]?=some a→m[k]?=some b→eqBd a b=false→qjJ l m=false
 | a::l,b::m,0,x,y,hx,hy,h=>by
   simp only [List.getElem?_cons_zero,Option.some.injEq] at hx hy
   subst hx;subst hy
   simp [qjJ,h]
 | a::l,b::m,k+1,x,y,hx,hy,h=>by
   have:=qk2 (l:=l) (m:=m) k (by simpa using hx) (by simpa using hy) h
   simp [qjJ,this]
 | [],_,_,_,_,hx,_,_=>by simp at hx
 | _::_,[],_,_,_,_,hy,_=>by simp at hy
theorem qrv (x y:List Bd)(hd:∀ u∈x,dle 5 u.t)(wx:∀ u∈x,u.wf)(wy:∀ u∈y,u.wf)(lx:x.length≤140737488351232)(ly:y.length≤140737488351232):PF 69 [bdA x,bdA y] (bv (qjJ x y)):=by
 have hlx:=qaR x
 have hly:=qaR y
 refine qI Tryz.func69 E Tryz.ntmps69 zL fun c hL hQ hDD=>(qd (qb (zX E (zK (qd (qd ?_))))));refine qb (zX E (zA E (qu E qA E) (zX E (zA E (qu E qA E) (zA E (qj E E E E) (zK (qo E (fun c0=>?_) (fun c0=>?_))))))))
 ·simp only[↓cqA,cqB]at c0
  refine qd (qb (zX E (zK (qn (qm (zI hL (qg E qh) ?_ ?_))))))
  ·rfl
  exact ⟨q7 (qn7 zO).symm,rfl⟩
 simp only[↓cqA,cqB]at c0
 refine qr (qa (qd (qd (qb (zX E (zK ?_))))));refine qv (qac (x.length) (fun k=>k≤x.length∧∀ j a b,j<k→x[j]?=some a→y[j]?=some b→eqBd a b=true) (fun k=>⟨[(0,bdA x),(1,bdA y),(5,iv (k:Int))],[]⟩) (⟨by omega,fun j a b hj=>absurd hj zO⟩) ?_ (fun k hk hp=>?_))
 ·exact zR hL (zC E (zC E (zC E SubT.nil))) SubO.nil
 refine qd (qd (qb (zX E (zX E (zA E (qu E qA E) (zA E (qj E E E E) (qc ?_)))))));refine qa (qo E (fun c1=>?_) (fun c1=>?_))
 ·simp only[↓cqA,cqB]at c1
  obtain ⟨u,hu⟩:=qM (l:=x) (k:=k) (by omega)
  obtain ⟨v,hv⟩:=qM (l:=y) (k:=k) (by omega)
  refine qr (qa (qd (qv (qd (qX 8 mixed E E E E (zU E (ql (.inl E) E) (zU E (ql (.inl E) E) ?_)))))));refine zU E (qp E qA E E zO (qbj hu)) (zU E (qD E qa1 E E) (zU E (ql (.inl E) E) (zU E (ql (.inl E) E) (zU E (qp E qA E E zO (qbj hv)) (zU E (qD E qa1 E E) ?_)))))
  refine qaq ⟨rfl,rfl,?_⟩;refine qH (avs:=[_,_]) true E E E zD qgV E E (qsS u v (hd u (List.mem_of_getElem? hu)) (wx u (List.mem_of_getElem? hu)) (wy v (List.mem_of_getElem? hv))) E E (zA E (qaB E E) (zK (qo E (fun c2=>?_) (fun c2=>?_))))
  ·simp only[↓cqA,cqB]at c2
   refine qd (qb (zX E (zK (qn (qP (qm (qm (qP (qm (zI hL (qg E qh) ?_ ?_))))))))))
   ·rfl
   exact ⟨q7 (qk2 k hu hv c2).symm,rfl⟩
  simp only[↓cqA,cqB]at c2
  refine qr (qR (qa (qb (zX E (zA E (qO E E E zO) (zX E (qc ?_)))))));refine qa ?_;refine ⟨?_,?_,?_⟩
  ·omega
  ·refine ⟨by omega,fun j a b hj ha hb=>?_⟩
   by_cases hjk:j<k
   ·exact hp.2 j a b hjk ha hb
   ·rw [show j=k by omega] at ha hb;rw [hu] at ha;rw [hv] at hb;cases ha;cases hb;exact c2
  exact zR hL (zC E (zC E (zC E SubT.nil))) SubO.nil
 simp only[↓cqA,cqB]at c1
 refine qV (qq (qq (qad ?_)));refine qa (qd (qb (zX E (zK (qn (zI hL (qg E qh) ?_ ?_))))))
 ·rfl
 exact ⟨q7 (qjl zO (fun j a b ha hb=>hp.2 j a b (by have:=(List.getElem?_eq_some_iff.1 ha).1;omega) ha hb)).symm,rfl⟩
theorem qst (f:Tm→Tm→Bool):∀ (l m:List Tm),(∀ u v,u∈l→(f u v=true↔u=v))→(eqL f l m=true↔l=m)
 | [],[],_=>by simp [eqL]
 | [],_::_,_=>by simp [eqL]
 | _::_,[],_=>by simp [eqL]
 | a::l,b::m,h=>by
   have ih:=qst f l m (fun u v hu=>h u v (by simp [hu]))
   simp only [eqL,Bool.and_eq_true,h a b (by simp),ih,List.cons.injEq]
theorem bext {a b:ByteArray}(h:a.data.toList=b.data.toList):a=b:=by
 cases a;cases b;congr 1;exact Array.toList_inj.1 h
theorem qgD:∀ (d:Nat) (a b:Tm),dle d a→(eqT d a b=true↔a=b)
 | 0,a,b,h=>h.elim
 | d+1,a,b,h=>by
   have ih:=qst (eqT d) a.args b.args (fun u v hu=>qgD d u v (h u hu))
   rw [eqT]
   simp only [Bool.and_eq_true,decide_eq_true_eq,ih,qhD]
   cases a;cases b
   simp only [Tm.mk.injEq]
   constructor
   ·rintro ⟨⟨⟨h1,h2⟩,h3⟩,h4⟩;exact ⟨h1,bext h2,h3,h4⟩
   ·rintro ⟨h1,h2,h3,h4⟩;exact ⟨⟨⟨h1,by rw [h2]⟩,h3⟩,h4⟩
theorem eqT_self {a:Tm}(h:dle 5 a):eqT 5 a a=true:=(qgD 5 a a h).2 rfl
theorem qsd (h:RisB l){b:Bd}(hb:b∈l):qe9 l b.name=b.t:=by
 have hs:hasB l b.name=true:=(qfb _ _).2 ⟨b,hb,rfl⟩
 have h1:=qiO h hb
 have h2:=(qf5 l b.name h).1
 rw [hs] at h2
 rw [gB] at h1
 rw [qe9]
 cases hh:qeX l b.name with
 | none=>rw [hh] at h2;cases h2
 | some t=>rw [hh] at h1;exact h1
mutual
def fitR:Nat→List Bd→Tm→Tm→List Bd×Int
 | 0,_,_,_=>([],3)
 | d+1,l,a,b=>if a.kind=1 then (if hasB l a.name=true then (if cmpT 5 (qe9 l a.name) b=0 then (l,0) else ([],3)) else (qdM l a.name b,qfT l a.name b)) else if qdZ a b=true then fitL d l (a.args.zip b.args) else ([],3)
def fitL:Nat→List Bd→List (Tm×Tm)→List Bd×Int
 | _,l,[]=>(l,0)
 | d,l,p::ps=>if (fitR d l p.1 p.2).2≠0 then ([],(fitR d l p.1 p.2).2) else fitL d (fitR d l p.1 p.2).1 ps
end
theorem qkZ (d:Nat)(p:Tm×Tm):∀ (ps:List (Tm×Tm)) (l:List Bd),(fitL d l ps).2=0→fitL d l (ps++[p])=if (fitR d (fitL d l ps).1 p.1 p.2).2≠0 then ([],(fitR d (fitL d l ps).1 p.1 p.2).2) else ((fitR d (fitL d l ps).1 p.1 p.2).1,0)
 | [],l,_=>by simp only [List.nil_append,fitL]
 | q::ps,l,h=>by
   rw [fitL] at h
   rw [List.cons_append,fitL,fitL]
   split at h
   ·rename_i hc;exact absurd h hc
   ·rename_i hc
    rw [if_neg hc,if_neg hc]
    exact qkZ d p ps _ h
theorem qdC (d:Nat):∀ (ps qs:List (Tm×Tm)) (l:List Bd),(fitL d l ps).2≠0→fitL d l (ps++qs)=fitL d l ps
 | [],qs,l,h=>by rw [fitL] at h;exact absurd E h
 | q::ps,qs,l,h=>by
   rw [List.cons_append,fitL,fitL]
   rw [fitL] at h
   split
   ·rfl
   ·rename_i hc
    rw [if_neg hc] at h
    exact qdC d ps qs _ h
theorem qqO (h:BOk l){s:ByteArray}(hs:s.size≤140737488351232)(ht:t.wf)(hm:mayT t=true)(hl:hasB l s=false):BOk (qdM l s t):=by
 unfold qdM
 split
 ·exact ⟨List.Pairwise.nil,by simp,fun b hb=>by cases hb⟩
 ·rename_i hc
  have hg:qlr [⟨s,t⟩] l=true:=by
   cases hx:qlr [⟨s,t⟩] l with
   | true=>rfl
   | false=>exact absurd (.inr hx) hc
  have hsb:hasB (subB [⟨s,t⟩] l) s=false:=by
   rw [qsn] at hl ⊢
   intro b hb
   obtain ⟨c,hc2,rfl⟩:=List.mem_map.1 hb
   exact hl c hc2
  have hr:=qpa (y:=⟨s,t⟩) (qmr [⟨s,t⟩] h.ris) hsb
  rw [qj2] at hr
  refine ⟨hr,?_,fun b hb=>?_⟩
  ·rw [qbw _ _ _ (by rw [qev];exact qgv l s),qev];omega
  ·rcases (qhb _ _ _ _).1 hb with hb|rfl
   ·obtain ⟨c,hc2,rfl⟩:=List.mem_map.1 hb
    have:=List.all_eq_true.1 hg c hc2
    exact ⟨⟨(h.el c hc2).1.1,qh6 (qmG hs ht hm) (h.el c hc2).1.2⟩,(qiM (by simpa using this)).1⟩
   ·exact ⟨⟨hs,ht⟩,hm⟩
theorem qkO {b v:Tm}(h:mayT b=true)(hv:v∈b.args):mayT v=true:=by
 rw [qfA] at h ⊢
 refine ⟨h.1.arg hv,qm4 4 5 v zO (h.2.1 v hv),?_⟩
 have h2:=Tm.sz_eq b
 obtain ⟨i,hi⟩:=List.getElem?_of_mem hv
 have:=qfi (l:=b.args) (k:=i) (u:=v) Tm.sz hi
 omega
theorem qmH:BOk []:=⟨List.Pairwise.nil,by simp,fun b hb=>by cases hb⟩
mutual
theorem fitR_bok:∀ (d:Nat) (l:List Bd) (a b:Tm),BOk l→a.wf→b.wf→mayT b=true→BOk (fitR d l a b).1
 | 0,l,a,b,_,_,_,_=>by rw [fitR];exact qmH
 | d+1,l,a,b,h,ha,hb,hm=>by
   rw [fitR]
   split
   ·split
    ·split
     ·exact h
     ·exact qmH
    ·rename_i hh;exact qqO h ha.2.1 hb hm (by simpa using hh)
   ·split
    ·exact qmT d (a.args.zip b.args) l h fun p hp=>by
      have:=List.of_mem_zip hp
      exact ⟨Tm.wfs_mem ha.2.2.2.2 this.1,Tm.wfs_mem hb.2.2.2.2 this.2,qkO hm this.2⟩
    ·exact qmH
theorem qmT:∀ (d:Nat) (ps:List (Tm×Tm)) (l:List Bd),BOk l→(∀ p∈ps,p.1.wf∧p.2.wf∧mayT p.2=true)→BOk (fitL d l ps).1
 | d,[],l,h,_=>by rw [fitL];exact h
 | d,p::ps,l,h,hp=>by
   rw [fitL]
   split
   ·exact qmH
   ·obtain ⟨h1,h2,h3⟩:=hp p (by simp)
    exact qmT d ps _ (fitR_bok d l p.1 p.2 h h1 h2 h3) fun q hq=>hp q (by simp [hq])
end
def fitPost (q:List Bd×Int)(r:AV):Prop:=(r=.tup [.imm (.slice none 0 0),iv q.2]∧q.1=[])∨r=.tup [bdA q.1,iv q.2]
theorem qq7 {f:FuncId}{args:List AV}{q:List Bd×Int}(h:AC Tryz.prog f args [] (fun r O=>fitPost q r∧O=[])):PF f args (.tup [bdA q.1,iv q.2]):=
 qh2 h (fun r O' h=>by
  obtain ⟨⟨rfl,e1⟩|rfl,rfl⟩:=h
  ·exact ⟨_,.tup (.cons (.nil (f:=false) (k:=5)) (.cons .refl .nil)),by rw [e1];rfl,rfl⟩
  ·exact ⟨_,.refl,rfl,rfl⟩)
theorem Fit_ok:∀ (d:Nat) (l:List Bd) (a b:Tm),dle d a→a.shp→a.wf→BOk l→b.wf→mayT b=true→PF 204 [bdA l,tmA false a,tmA false b] (.tup [bdA (fitR d l a b).1,iv (fitR d l a b).2])
 | 0,l,a,b,h,_,_,_,_,_=>h.elim
 | d+1,l,a,b,h,hs,ha,hl,hb,hm=>by
   refine qq7 ?_
   have hln:=hl.len
   have hal:a.args.length≤4:=by
    rcases ((Tm.shp_iff a).1 hs).1 with ⟨_,_,_,e⟩|⟨_,_,_,e⟩|⟨_,_,_,e⟩<;>simp_all
   have hlk:(qe9 l a.name).wf∧dle 5 (qe9 l a.name)∨hasB l a.name=false:=by
    have h1:=(qf5 l a.name hl.ris).1
    cases hh:hasB l a.name with
    | false=>exact .inr E
    | true=>
      rw [hh] at h1
      cases h2:qeX l a.name with
      | none=>rw [h2] at h1;cases h1
      | some t=>rw [qe9,h2];exact .inl ⟨(hl.look h2).1,qbN (hl.look h2).2⟩
   refine qI Tryz.func204 E Tryz.ntmps204 zL fun c hL hQ hDD=>(qd (qb (qt E E zD (q6 4 E E E) E (qt E E zD (q6 5 E E E) E (zX E (zX E (qc ?_)))))));refine qa (qd (qd (qb (zA E (qe E qaL E) (zA E (qi E qQ E E E E E) (zA E (qj E E E E) (zK (qo E (fun c0=>?_) (fun c0=>?_)))))))))
   ·simp only[↓cqA,cqB]at c0
    refine qd (qb (zX E (zA E (qe E qay E) (zA E (qi E qar E E E E E) (qH (avs:=[_,_]) false E E E zD qjC E E (qsR l a.name hl.ris zO) E E (zX E (zA E (qS E E E) (zA E (qS E E E) ?_))))))))
    refine qt E E zD (qat 8 E qaJ E) E (qT E E E qz E E E E E E E E E (zX E (zK (qd (qv (qd ?_))))));refine qb (zX E (zX E (qE 28 E (fun g28=>?_) (fun g28=>?_))))
    ·have hlk2:(qe9 l a.name).wf∧dle 5 (qe9 l a.name):=by
      rcases hlk with h|h
      ·exact h
      ·rw [h] at g28;cases g28
     refine zZ E (qF E qz E E E E) (zZ E (qF E qz E E E E) (zZ E (qai (avs:=[_,_]) true E qeh E E (qhI 5 (qe9 l a.name) b hlk2.2 hlk2.1 hb) (fun _=>rfl) E) (zZ E (qj E E E E) (zA E (qk E E E) (zX E (zK (qo E (fun c1=>?_) (fun c1=>?_))))))))
     ·simp only[↓cqA,cqB]at c1
      refine qd (qb (zX E (zX E (zK (qn (qP (qm (qm (zI hL (qg E (qg E qh)) ?_ ?_)))))))))
      ·rfl
      refine ⟨?_,rfl⟩
      rw [fitR]
      repeat' split
      all_goals first|exact .inl ⟨rfl,rfl⟩|exact .inr E|(exfalso;simp_all;done)
     simp only[↓cqA,cqB]at c1
     refine qd (qb (zX E (zX E (zK (qo E (fun c2=>?_) (fun c2=>?_))))))
     ·refine qd (qb (zX E (zX E (zX E (zK (qn ?_))))));refine qP (qm (qm (zI hL (qg E (qg E qh)) ?_ ?_)))
      ·rfl
      refine ⟨?_,rfl⟩
      rw [fitR]
      repeat' split
      all_goals first|exact .inl ⟨rfl,rfl⟩|exact .inr E|(exfalso;simp_all;done)
     have hno:hasB l a.name=false:=by simp_all
     refine qr (qR (qa (qd (qb (zX E (zA E (qe E qay E) (zA E (qi E qar E E E E E) ?_)))))));refine zA E (qF E qz E E E E) ?_
     refine qH (avs:=[_,_,_]) true E E E zD qiV E E (qqE l hl a.name ha.2.1 b hb hm) E E (zA E (qS E E E) (zA E (qS E E E) (qab (qdi hQ) (zX E (zX E (zK ?_))))));refine qn (qm (zI hL (qg E (qg E qh)) ?_ ?_))
     ·rfl
     refine ⟨?_,rfl⟩
     rw [fitR]
     repeat' split
     all_goals first|exact .inl ⟨rfl,rfl⟩|exact .inr E|(exfalso;simp_all;done)
    refine zY E (zY E (zY E (zY E (zA E (qk E E E) (zX E ?_)))))
    refine zK (qaA E (qd (qb (zX E (zX E (qc ?_))))));refine qa (qo E (fun c2=>?_) (fun c2=>?_))
    ·refine qd (qb (zX E (zX E (zX E (zK (qn ?_))))));refine qP (qm (qm (zI hL (qg E (qg E qh)) ?_ ?_)))
     ·rfl
     refine ⟨?_,rfl⟩
     rw [fitR]
     repeat' split
     all_goals first|exact .inl ⟨rfl,rfl⟩|exact .inr E|(exfalso;simp_all;done)
    have hno:hasB l a.name=false:=by simp_all
    refine qr (qR (qa (qd (qb (zX E (zA E (qe E qay E) (zA E (qi E qar E E E E E) ?_)))))));refine zA E (qF E qz E E E E) ?_
    refine qH (avs:=[_,_,_]) true E E E zD qiV E E (qqE l hl a.name ha.2.1 b hb hm) E E (zA E (qS E E E) (zA E (qS E E E) (qab (qdi hQ) (zX E (zX E (zK ?_))))));refine qn (qm (zI hL (qg E (qg E qh)) ?_ ?_))
    ·rfl
    refine ⟨?_,rfl⟩
    rw [fitR]
    repeat' split
    all_goals first|exact .inl ⟨rfl,rfl⟩|exact .inr E|(exfalso;simp_all;done)
   simp only[↓cqA,cqB]at c0
   refine qr (qa (qd (qb (zA E (qF E qz E E E E) (zA E (qF E qz E E E E) (qH (avs:=[_,_]) false E E E zD qmU E E (args_ok a b ha hb zO) E E (zX E ?_)))))));refine zA E (qS E E E) (zA E (qS E E E) ?_)
   refine zX E (zX E (zK (qd (qd (qb (zX E ?_))))));refine zA E (qaB E E) (zK (qo E (fun c3=>?_) (fun c3=>?_)))
   ·simp only[↓cqA,cqB]at c3
    refine qd (qb (zX E (zX E (zK (qn (qm (zI hL (qg E (qg E qh)) ?_ ?_)))))))
    ·rfl
    refine ⟨?_,rfl⟩
    rw [fitR]
    repeat' split
    all_goals first|exact .inl ⟨rfl,rfl⟩|exact .inr E|(exfalso;simp_all;done)
   simp only[↓cqA,cqB]at c3
   have hab:qdZ a b=true:=by simp_all
   have haL:qjM a b=a.args.zip b.args:=by rw [qjM,if_pos hab]
   have hpl:=qkF (a.args.zip b.args)
   have hzl:(a.args.zip b.args).length≤4:=by rw [List.length_zip];omega
   rw [haL]
   refine qr (qa (qd (qd (qb (zX E (zA E (qu E qed E) (zX E ?_)))))));refine zK (qv (qac ((a.args.zip b.args).length) (fun k=>k≤(a.args.zip b.args).length∧(fitL d l ((a.args.zip b.args).take k)).2=0) (fun k=>⟨[(0,bdA (fitL d l ((a.args.zip b.args).take k)).1),(52,prA (a.args.zip b.args)),(53,iv (prDs (a.args.zip b.args)).length),(54,iv (k:Int))],[]⟩) (⟨by omega,by rw [List.take_zero,fitL]⟩) ?_ (fun k hk hp=>?_)))
   ·exact qC (SubT.cons (qaw E (by rw [List.take_zero,fitL])) (zC rfl (zC rfl (zC rfl SubT.nil)))) SubO.nil rfl rfl (noL' (noL hL) _)
   have hbk:BOk (fitL d l ((a.args.zip b.args).take k)).1:=qmT d _ l hl fun p hp=>by
    have:=List.of_mem_zip (List.mem_of_mem_take hp)
    exact ⟨Tm.wfs_mem ha.2.2.2.2 this.1,Tm.wfs_mem hb.2.2.2.2 this.2,qkO hm this.2⟩
   refine qd (qb (zA E (qj E E E E) (zK (qd (qo E (fun c4=>?_) (fun c4=>?_))))))
   ·simp only[↓cqA,cqB]at c4
    obtain ⟨q,hq⟩:=qM (l:=a.args.zip b.args) (k:=k) (by omega)
    have hqm:=List.of_mem_zip (List.mem_of_getElem? hq)
    have hsn:=qkZ d q ((a.args.zip b.args).take k) l hp.2
    rw [← qas hq] at hsn
    refine qr (qa (qd (qv (qd (qb (zA E (qp E qed E E zO (prDs_get hq)) (zA E (qD E qim E E) ?_)))))))
    refine qt E E zD (qat 13 E qgj E) E (qT E E E qim E E E E E E E E E (zK (qd (qb (zX E (zA E (qfS E (show arB Tryz.prog 277 2 34 4=true by kernel_rfl) E E zD zD) ?_))))));refine zA E (qi E qz E E E E E) (zA E (qfS E (show arB Tryz.prog 277 2 34 4=true by kernel_rfl) E E zD zD) (zA E (qi E qz E E E E E) (qH (avs:=[_,_,_]) false E E E zD qjz E E (Fit_ok d (fitL d l ((a.args.zip b.args).take k)).1 q.1 q.2 (h q.1 hqm.1) (hs.arg hqm.1) (Tm.wfs_mem ha.2.2.2.2 hqm.1) hbk (Tm.wfs_mem hb.2.2.2.2 hqm.2) (qkO hm hqm.2)) E E (zX E ?_))))
    refine zA E (qS E E E) (zA E (qS E E E) (zX E (zX E (zK (qd (qd ?_))))));refine qb (zX E (zA E (qj E E E E) (zK (qo E (fun c5=>?_) (fun c5=>?_)))))
    ·simp only[↓cqA,cqB]at c5
     refine qd (qb (zX E (zX E (zX E (zK (qn ?_))))));refine qm (qP (qm (qm (qP (qm (zI hL (qg E (qg E qh)) ?_ ?_))))))
     ·rfl
     refine ⟨?_,rfl⟩
     have e:fitL d l (a.args.zip b.args)=([],(fitR d (fitL d l ((a.args.zip b.args).take k)).1 q.1 q.2).2):=by
      rw [if_pos c5] at hsn
      have:=qdC d ((a.args.zip b.args).take (k+1)) ((a.args.zip b.args).drop (k+1)) l (by rw [hsn];exact c5)
      rw [List.take_append_drop] at this
      rw [this,hsn]
     rw [fitR,if_neg c0,if_pos hab,e]
     exact .inl ⟨rfl,rfl⟩
    simp only[↓cqA,cqB]at c5
    rw [if_neg (by simp [c5])] at hsn
    refine qr (qa (qb (zX E (zX E (qc (qR (qa ?_)))))));refine qb (zA E (qO E E E zO) (zX E (zK ?_)));refine ⟨?_,?_,?_⟩
    ·omega
    ·exact ⟨by omega,by rw [hsn]⟩
    exact qC (SubT.cons (qaw E (by rw [hsn])) (zC rfl (zC rfl (zC rfl SubT.nil)))) SubO.nil rfl rfl (noL' (noL hL) _)
   simp only[↓cqA,cqB]at c4
   refine qV (qq (qq (qad ?_)));refine qa (qd (qb (zX E (zX E (zX E (zK ?_))))));refine qn (zI hL (qg E (qg E qh)) ?_ ?_)
   ·rfl
   refine ⟨?_,rfl⟩
   rw [List.take_of_length_le (by omega)] at hp ⊢
   rw [fitR,if_neg c0,if_pos hab]
   refine .inr ?_
   rw [hp.2];rfl
def Gr (t:Tm):Prop:=∀ y,¬ t.occ y
theorem Gr.arg {u:Tm}(h:Gr t)(hu:u∈t.args):Gr u:=fun y hy=>h y ((Tm.occ_iff _ _).2 (.inr ⟨u,hu,hy⟩))
theorem Gr.sub (h:Gr t)(hs:t.shp)(g:ByteArray→Tm):t.sub g=t:=sub_id hs fun y hy=>absurd hy (h y)
theorem qkV (hd:dle 5 t):qfJ t=true↔Gr t:=by
 rw [qfJ,List.isEmpty_iff]
 constructor
 ·intro h y hy
  have:=(qiD y 5 t hd).2 hy
  rw [h] at this;cases this
 ·intro h
  exact List.eq_nil_iff_forall_not_mem.2 fun y hy=>h y ((qiD y 5 t hd).1 hy)
structure GG (l:List Bd):Prop where
 gb:GB l
 gr:∀ b∈l,Gr b.t
theorem qqI:GG []:=⟨GB_nil,fun b hb=>by cases hb⟩
theorem GG.get (h:GG l){y:ByteArray}(hy:hasB l y=true):Gr (gB l y)∧mayT (gB l y)=true:=by
 obtain ⟨b,hb,rfl⟩:=(qfb l y).1 hy
 rw [qiO h.gb.ris hb]
 exact ⟨h.gr b hb,(h.gb.el b hb).2.2⟩
theorem qny (h:GG l){x:ByteArray}(hx:varB x=true)(hxs:x.size≤140737488351232)(hw:t.wf)(hm:mayT t=true)(hg:Gr t)(hl:hasB l x=false)(he:qfT l x t=0):
   GG (qdM l x t)∧(qdM l x t).length=l.length+1∧(∀ y,hasB l y=true→gB (qdM l x t) y=gB l y)∧gB (qdM l x t) x=t∧∀ y,hasB (qdM l x t) y=(hasB l y || decide (x=y)):=by
 obtain ⟨h1,h2,h3,h4⟩:=qlL h.gb hx hxs hw hm hl (hg x) (fun y hy=>absurd hy (hg y)) he
 have k1:∀ y,hasB l y=true→gB (qdM l x t) y=gB l y:=fun y hy=>by
   rw [h3,(h.get hy).1.sub (qdd (h.get hy).2)]
 have k2:gB (qdM l x t) x=t:=by rw [h3,qjk h.gb.ris hl,qjZ,qsp,if_pos rfl]
 refine ⟨⟨h1,fun b hb=>?_⟩,h2,k1,k2,h4⟩
 have e:=qiO h1.ris hb
 have hh:=h4 b.name
 rw [(qfb _ _).2 ⟨b,hb,rfl⟩] at hh
 rw [← e]
 cases hc:hasB l b.name with
 | true=>rw [k1 _ hc];exact (h.get hc).1
 | false=>
   rw [hc] at hh
   have:x=b.name:=by simpa using hh.symm
   rw [← this,k2];exact hg
structure FitOk (l m:List Bd)(occ:ByteArray→Prop):Prop where
 gg:GG m
 old:∀ y,hasB l y=true→hasB m y=true∧gB m y=gB l y
 dom:∀ y,hasB m y=true↔hasB l y=true∨occ y
theorem qrx {f:Tm→Tm}:∀ {x y:List Tm},x.length=y.length→(∀ p∈x.zip y,f p.1=p.2)→x.map f=y
 | [],[],_,_=>rfl
 | a::x,b::y,hl,h=>by
   rw [List.map_cons,qrx (x:=x) (y:=y) (by simpa using hl) fun p hp=>h p (by simp [hp]),h (a,b) (by simp)]
 | [],_::_,hl,_=>by simp at hl
 | _::_,[],hl,_=>by simp at hl
mutual
theorem qqo:∀ (d:Nat) (l:List Bd) (a b:Tm),GG l→a.shp→a.wf→mayT b=true→b.wf→Gr b→(fitR d l a b).2=0→FitOk l (fitR d l a b).1 (fun y=>a.occ y)∧a.sub (gB (fitR d l a b).1)=b
 | 0,l,a,b,_,_,_,_,_,_,h=>by rw [fitR] at h;cases h
 | d+1,l,a,b,hl,hs,hw,hm,hbw,hg,h=>by
   rw [fitR] at h ⊢
   by_cases hk:a.kind=1
   ·rw [if_pos hk] at h ⊢
    have ev:=hs.var hk
    have hocc:∀ y,a.occ y↔a.name=y:=fun y=>by rw [ev.1];exact qj0 a.name y
    by_cases hh:hasB l a.name=true
    ·rw [if_pos hh] at h ⊢
     by_cases hc:cmpT 5 (qe9 l a.name) b=0
     ·rw [if_pos hc]
      obtain ⟨c,hc1,hc2⟩:=(qfb l a.name).1 hh
      have e1:qe9 l a.name=c.t:=by rw [← hc2,qsd hl.gb.ris hc1]
      have e2:gB l a.name=c.t:=by rw [← hc2,qiO hl.gb.ris hc1]
      have e3:=(qgD 5 _ _ (qbN (hl.gb.el c hc1).2.2)).1 ((qge 5 _ _ (qbN (hl.gb.el c hc1).2.2)).1 (e1▸hc))
      refine ⟨⟨hl,fun y hy=>⟨hy,rfl⟩,fun y=>⟨fun h=>.inl h,?_⟩⟩,?_⟩
      ·rintro (h|h)
       ·exact h
       ·rw [hocc] at h;rw [← h];exact hh
      ·rw [Tm.sub_eq,if_pos hk,e2,e3]
     ·rw [if_neg hc] at h;cases h
    ·rw [if_neg hh] at h ⊢
     have hno:hasB l a.name=false:=by simpa using hh
     obtain ⟨g1,g2,g3,g4,g5⟩:=qny hl ev.2 hw.2.1 hbw hm hg hno h
     refine ⟨⟨g1,fun y hy=>⟨by rw [g5,hy];rfl,g3 y hy⟩,fun y=>?_⟩,?_⟩
     ·rw [g5,Bool.or_eq_true,decide_eq_true_eq,hocc]
     ·rw [Tm.sub_eq,if_pos hk];exact g4
   ·rw [if_neg hk] at h ⊢
    by_cases hc:qdZ a b=true
    ·rw [if_pos hc] at h ⊢
     have hc2:=hc
     simp only [qdZ,Bool.and_eq_true,decide_eq_true_eq] at hc2
     obtain ⟨f1,f2⟩:=qkY d (a.args.zip b.args) l hl (fun p hp=>by
      have:=List.of_mem_zip hp
      exact ⟨hs.arg this.1,Tm.wfs_mem hw.2.2.2.2 this.1,qkO hm this.2,Tm.wfs_mem hbw.2.2.2.2 this.2,hg.arg this.2⟩) h
     refine ⟨⟨f1.gg,f1.old,fun y=>?_⟩,?_⟩
     ·rw [f1.dom,Tm.occ_iff]
      constructor
      ·rintro (h|⟨p,hp,h⟩)
       ·exact .inl h
       ·exact .inr (.inr ⟨p.1,(List.of_mem_zip hp).1,h⟩)
      ·rintro (h|⟨h,_⟩|⟨u,hu,h⟩)
       ·exact .inl h
       ·exact absurd h hk
       ·obtain ⟨i,hi⟩:=List.getElem?_of_mem hu
        obtain ⟨v,hv⟩:=qM (l:=b.args) (k:=i) (by have:=(List.getElem?_eq_some_iff.1 hi).1;omega)
        exact .inr ⟨(u,v),List.mem_of_getElem? (List.getElem?_zip_eq_some.2 ⟨hi,hv⟩),h⟩
     ·rw [Tm.sub_eq,if_neg hk]
      rw [qrx hc2.2 f2]
      cases a;cases b
      simp only at hc2 ⊢
      obtain ⟨⟨⟨rfl,rfl⟩,rfl⟩,_⟩:=hc2
      rfl
    ·rw [if_neg hc] at h;cases h
theorem qkY:∀ (d:Nat) (ps:List (Tm×Tm)) (l:List Bd),GG l→(∀ p∈ps,p.1.shp∧p.1.wf∧mayT p.2=true∧p.2.wf∧Gr p.2)→(fitL d l ps).2=0→FitOk l (fitL d l ps).1 (fun y=>∃ p∈ps,Tm.occ y p.1)∧∀ p∈ps,p.1.sub (gB (fitL d l ps).1)=p.2
 | d,[],l,hl,_,_=>by
   rw [fitL]
   exact ⟨⟨hl,fun y hy=>⟨hy,rfl⟩,fun y=>by simp⟩,fun p hp=>by cases hp⟩
 | d,p::ps,l,hl,hp,h=>by
   rw [fitL] at h ⊢
   by_cases hc:(fitR d l p.1 p.2).2=0
   ·rw [if_neg (by simp [hc])] at h ⊢
    obtain ⟨q1,q2,q3,q4,q5⟩:=hp p (by simp)
    obtain ⟨f1,f2⟩:=qqo d l p.1 p.2 hl q1 q2 q3 q4 q5 hc
    obtain ⟨g1,g2⟩:=qkY d ps _ f1.gg (fun q hq=>hp q (by simp [hq])) h
    refine ⟨⟨g1.gg,fun y hy=>?_,fun y=>?_⟩,fun q hq=>?_⟩
    ·obtain ⟨a1,a2⟩:=f1.old y hy
     obtain ⟨b1,b2⟩:=g1.old y a1
     exact ⟨b1,b2.trans a2⟩
    ·rw [g1.dom,f1.dom]
     simp only [List.mem_cons,exists_eq_or_imp]
     exact or_assoc
    ·rcases List.mem_cons.1 hq with rfl|hq
     ·refine Eq.trans (qkn q.1 fun y hy=>?_) f2
      exact (g1.old y ((f1.dom y).2 (.inr hy))).2
     ·exact g2 q hq
   ·rw [if_pos hc] at h;exact absurd h hc
end
structure MI (m l:List Bd)(ps:List (Tm×Tm)):Prop where
 gb:GB l
 le:∀ y,hasB l y=true→hasB m y=true∧gB l y=gB m y
 ps:∀ p∈ps,PK p∧Gr p.2∧mayT p.2=true∧p.1.sub (gB m)=p.2∧∀ y,p.1.occ y→hasB m y=true
theorem MI.gg {m:List Bd}(hm:GG m)(h:MI m l ps):GG l:=⟨h.gb,fun b hb=>by
 have hh:=(qfb l b.name).2 ⟨b,hb,rfl⟩
 obtain ⟨h1,h2⟩:=h.le _ hh
 rw [qiO h.gb.ris hb] at h2
 rw [h2];exact (hm.get h1).1⟩
theorem MI.occ {m:List Bd}(hm:GG m)(h:MI m l ps){p:Tm×Tm}(hp:p∈ps){z:ByteArray}(hz:(p.1.sub (gB l)).occ z):hasB m z=true∧hasB l z=false:=by
 obtain ⟨h1,h2,h3,h4,h5⟩:=h.ps p hp
 refine ⟨?_,qqC h.gb h1.1.1 hz⟩
 obtain ⟨y,hy,hz⟩:=(qoZ _ z p.1 h1.1.1).1 hz
 cases hc:hasB l y with
 | true=>exact absurd hz (((h.gg hm).get hc).1 z)
 | false=>rw [qjk h.gb.ris hc,qj0] at hz;rw [← hz];exact h5 y hy
end Go.Proofs.YtpgceiijoedppaaGreat