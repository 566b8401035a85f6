/- Part 21 of the proof: Fr, Fs, Ft, Fu. -/
import Derived.Test.YtpgceiijoedppaaGreatC20
set_option linter.unusedVariables false
set_option linter.unusedSimpArgs false
set_option maxRecDepth 8000
namespace Go.Proofs.YtpgceiijoedppaaGreat
open Go
variable {l:List Bd}{t:Tm}
abbrev bdA (l:List Bd):AV:=.dat false 5 (bdDs l)
theorem qmd (l:List Bd)(hl:BOk l):∀ (d:Nat) (t:Tm),dle d t→t.wf→AC Tryz.prog 187 [tmA false t,.fn 188 [.ptr 99 0]] [(99,.box [bdA l])] (fun r O=>r=.agg (lift true (tmD (qfu (gB l) d t)))∧O=[(99,.box [bdA l])])
 | 0,t,h,_=>h.elim
 | d+1,t,h,ht=>by
   have hlen:=qaY t.args
   have hal:=ht.2.2.2.1
   refine qI Tryz.func187 E Tryz.ntmps187 zL fun c hL hQ hDD=>(qd (qb (qt E E zD (q6 2 E E E) E (qt E E zD (qat 4 E qaJ E) E (zK (qd ?_))))));refine qd (qb (zA E (qe E qaL E) (zA E (qi E qQ E E E E E) (zA E (qj E E E E) (zK (qo E (fun c0=>?_) (fun c0=>?_)))))))
   ·simp only[↓cqA,cqB]at c0
    refine qd ?_;refine qb ?_;refine zX E ?_;refine zA E (qe E qay E) ?_;refine zA E (qi E qar E E E E E) ?_;refine qag (avs:=[_]) false E E E zD qm3 E E (Put1_ok l hl t.name) E (qbQ (.cons E trivial E .nil)) (by rintro r O' ⟨rfl,rfl⟩ l' hl';exact .inl ((qdN (by rfl) l').trans hl')) (by rintro h;cases h) ?_
    rintro r O' ⟨rfl,rfl⟩
    refine qT E E E qz E E E E E E E E E (zK (qn (qm ?_)))
    change retQ _ _ _ _ _ _ _
    refine retO (O':=[(99,_)]) (.inl E) (qaS qz E E E qh) (SubO.cons E SubO.nil) ?_ ?_ (LO hL E) ?_
    ·rfl
    ·rfl
    exact ⟨by rw [qfu,if_pos c0];rfl,rfl⟩
   simp only[↓cqA,cqB]at c0
   refine qr (qa (qd (qb (zX E (zK (qd ?_))))));refine qd (qb (zA E (qe E qaa E) (zA E (qi E q9 E E E E E) (zA E (qu E qN E) (zX E (zK (qv (qac (t.args.length) (fun k=>k≤t.args.length) (fun k=>⟨[(1,.fn 188 [.ptr 99 0]),(2,.ptr 2 0),(4,.ptr 4 0),(5,.row 5),(16,.dat false 4 (tmDs t.args)),(17,iv (tmDs t.args).length),(18,iv (k:Int))],[(99,.box [bdA l]),(2,.box (lift false (tmD t))),(4,.box ([Value.int .i64 0,Value.string ⟨#[]⟩,Value.int .i64 0,Value.slice none 0 0].map .imm)),(5,.rowd 34 4 true (qlm ((t.args.take k).map (qfu (gB l) d))))]⟩) zO ?_ (fun k hk hp=>?_)))))))))
   ·exact Sub.trans (qam (t:=5) (l:=5) 34 4 true E E) (qC (zC E (zC E (zC E (zC E (zC E (zC E (zC E SubT.nil))))))) (SubO.cons (qU E (by rfl)) (SubO.cons (qU E (by rfl)) (SubO.cons (qU E (by rfl)) (SubO.cons (qU E (by rfl)) SubO.nil)))) E E (oneL hL E))
   have hl2:(qlm ((t.args.take k).map (qfu (gB l) d))).length≤t.args.length:=by simp [qlm];omega
   refine qd (qb (zA E (qj E E E E) (zK (qd (qo E (fun c1=>?_) (fun c1=>?_))))))
   ·simp only[↓cqA,cqB]at c1
    obtain ⟨u,hu⟩:=qM (l:=t.args) (k:=k) (by omega)
    have hum:=List.mem_of_getElem? hu
    refine qr (qa (qd (qv (qd (qb (zA E (qp E qN E E zO (qbP hu)) (zA E (qD E qz E E) (qt E E zD (qat 7 E qaJ E) E (qT E E E qz E E E E E E E E E (zK (qb (zX E (zA E (qF E qz E E E E) ?_)))))))))))))
    refine zX E ?_;refine qag (avs:=[_,_]) false E E E zD qeI E E (qmd l hl d u (h u hum) (Tm.wfs_mem ht.2.2.2.2 hum)) E (qbQ (.cons E trivial E .nil)) (by rintro r O' ⟨rfl,rfl⟩ l' hl';exact .inl ((qdN (by rfl) l').trans hl')) (by rintro h;cases h) ?_
    rintro r O' ⟨rfl,rfl⟩
    refine qt E E zD (qaj 26 E qN qaJ E E zD zD zD E E E) E (qbW E E zD (qaU 27 qgm E E E E E E E E (qqW hL E) zO E) E ?_)
    refine zX E (qc (qR (qa (qb (zA E (qO E E E zO) (zX E (qc ?_)))))));refine qa ?_;refine ⟨?_,?_,?_⟩
    ·omega
    ·omega
    exact Sub.trans (qZ 27 5 (qqW hL E) (qqW hL E)) (qC (zC E (zC E (zC E (zC E (zC E (zC E (zC E SubT.nil))))))) (SubO.cons (qU E (by rfl)) (SubO.cons (qU E (by rfl)) (SubO.cons (qU E (by rfl)) (SubO.cons (qU E (by rw [qas hu,List.map_append,qlm,qlm,List.map_append];rfl)) SubO.nil)))) E E (oneL hL E))
   simp only[↓cqA,cqB]at c1
   refine qV (qq (qq (qad ?_)));refine qa (qd (qb (zX E (zA E (qe E qaa E) (qT E E E q9 E E E E E E E E E (zK ?_))))));refine qd (qbI (qaG (l:=5) E zD (qqW hL E) E E) (qb (zA E (qF E qz E E E E) (qT E E E qz E E E E E E E E E (zK (qn ?_))))))
   change retQ _ _ _ _ _ _ _
   refine retO (O':=[(99,_)]) (.inl E) (qaS qz E E E qh) (SubO.cons E SubO.nil) ?_ ?_ (LO hL E) ?_
   ·rfl
   ·rfl
   exact ⟨by rw [qfu,if_neg c0,List.take_of_length_le zO];simp only [tmD,qeE];rfl,rfl⟩
def putT (l:List Bd)(t:Tm):Tm:=qfu (gB l) 5 t
theorem Put_ok (l:List Bd)(hl:BOk l)(t:Tm)(hd:dle 5 t)(ht:t.wf):PF 120 [bdA l,tmA false t] (.agg (lift true (tmD (putT l t)))):=by
 have key:=qc0 99 2 (qmd l hl 5 t hd ht)
 refine qI Tryz.func120 E Tryz.ntmps120 zL fun c hL hQ hDD=>(qd (qb (qt E E zD (q6 2 E E E) E (qt E E zD (q6 3 E E E) E (qt E E zD (qat 4 E qaJ E) E (zK ?_))))));refine qd (qb (zA E (qF E qz E E E E) ?_))
 refine zA E (qdz (vs:=[_]) E E) ?_;refine qag (avs:=[_,_]) false E E E zD qeI E E (key) E (qbQ (.cons E trivial E .nil)) (by rintro r O' ⟨rfl,rfl⟩ l' hl';exact .inl ((qdN (by rfl) l').trans hl')) (by rintro h;cases h) ?_
 rintro r O' ⟨rfl,rfl⟩
 refine qT E E E qz E E E E E E E E E (zK (qn (zI hL (qaS qz E E E qh) ?_ ?_)))
 ·rfl
 exact ⟨by rfl,rfl⟩
theorem qpH (g:ByteArray→Tm)(hg:∀ s,s.size≤140737488351232→(g s).wf):∀ (d:Nat) (t:Tm),t.wf→(qfu g d t).wf
 | 0,t,h=>h
 | d+1,t,h=>by
   simp only [qfu]
   split
   ·exact hg _ h.2.1
   ·refine ⟨h.1,h.2.1,h.2.2.1,by simpa using h.2.2.2.1,?_⟩
    have key:∀ ts:List Tm,Tm.wfs ts→Tm.wfs (ts.map (qfu g d)):=fun ts=>by
     induction ts with
     | nil=>intro _;trivial
     | cons a ts ih=>
       intro h
       simp only [Tm.wfs,List.map_cons] at h ⊢
       exact ⟨(Tm.wf0_iff _).2 (qpH g hg d a ((Tm.wf0_iff _).1 h.1)),ih h.2⟩
    exact key _ h.2.2.2.2
theorem varTm_wf {s:ByteArray}(h:s.size≤140737488351232):(Tm.mk 1 s 0 []).wf:=⟨⟨by simp,by simp⟩,h,⟨by simp,by simp⟩,Nat.zero_le _,trivial⟩
theorem gB_wf (hl:BOk l)(s:ByteArray)(h:s.size≤140737488351232):(gB l s).wf:=by
 unfold gB
 cases hh:qeX l s with
 | none=>exact varTm_wf h
 | some t=>exact (hl.look hh).1
theorem qh6 (hl:BOk l)(ht:t.wf):(putT l t).wf:=qpH _ (gB_wf hl) _ _ ht
theorem qry:qfQ.wf:=⟨⟨by simp [qfQ],by simp [qfQ]⟩,by simp [qfQ];exact Nat.zero_le _,⟨by simp [qfQ],by simp [qfQ]⟩,Nat.zero_le _,trivial⟩
def qsk (l:List Bd)(t:Tm):Tm:=if mayT (putT l t)=true then putT l t else qfQ
def qgB (l:List Bd)(t:Tm):Int:=if mayT (putT l t)=true then 0 else 2
theorem Into_ok (l:List Bd)(hl:BOk l)(t:Tm)(hd:dle 5 t)(ht:t.wf):PF 289 [bdA l,tmA false t] (.tup [.agg (lift true (tmD (qsk l t))),iv (qgB l t)]):=by
 refine qh2 (Post:=fun r O=>(mayT (putT l t)=true∧r=.tup [.agg (lift true (tmD (putT l t))),iv 0]∨mayT (putT l t)=false∧r=.tup [.agg [iv 0,sv ⟨#[]⟩,iv 0,.imm (.slice none 0 0)],iv 2])∧O=[]) ?_ (fun r O' h=>by
  obtain ⟨⟨h1,rfl⟩|⟨h1,rfl⟩,rfl⟩:=h
  ·exact ⟨_,.refl,by rw [qsk,qgB,if_pos h1,if_pos h1],rfl⟩
  ·exact ⟨_,.tup (.cons (zero_le true) (.cons .refl .nil)),by rw [qsk,qgB,if_neg (by simp [h1]),if_neg (by simp [h1])],rfl⟩)
 have hw:=qh6 hl ht
 refine qI Tryz.func289 E Tryz.ntmps289 zL fun c hL hQ hDD=>(qd (qb (qt E E zD (q6 3 E E E) E (qt E E zD (qat 4 E qaJ E) E (zX E (zK ?_))))));refine qd (qb (zX E (zA E (qF E qz E E E E) ?_)))
 refine qH (avs:=[_,_]) false E E E zD qpj E E (Put_ok l hl t hd ht) E E (qt E E zD (qat 6 E qaJ E) E (qT E E E qz E E E E E E E E E (zK (qd (qd (qb ?_))))));refine zA E (qF E qz E E E E) (qH (avs:=[_]) true E E E zD qic E E (qsQ (putT l t) hw) E E (zA E (qaB E E) (zK (qo E (fun c0=>?_) (fun c0=>?_)))))
 ·simp only[↓cqA,cqB]at c0
  refine qd (qb (zA E (qaF E qaJ E qd4 E E) (qT E E E qz E E E E E E E E E (zX E (zK (qn ?_))))));refine qm (zI hL (qaS qz E E E (qg E qh)) ?_ ?_)
  ·rfl
  exact ⟨.inr ⟨c0,rfl⟩,rfl⟩
 simp only[↓cqA,cqB]at c0
 refine qr (qa (qd (qb (zA E (qF E qz E E E E) (qT E E E qz E E E E E E E E E (zX E (qc ?_)))))));refine qa (qn (zI hL (qaS qz E E E (qg E qh)) ?_ ?_))
 ·rfl
 exact ⟨.inl ⟨c0,rfl⟩,rfl⟩
theorem qiM (h:qgB l t=0):mayT (putT l t)=true∧qsk l t=putT l t:=by
 unfold qgB at h
 split at h
 ·rename_i hm;exact ⟨hm,by rw [qsk,if_pos hm]⟩
 ·cases h
theorem wfs_of:∀ {ts:List Tm},(∀ t∈ts,t.wf)→Tm.wfs ts
 | [],_=>trivial
 | t::ts,h=>⟨(Tm.wf0_iff t).2 (h t (by simp)),wfs_of (fun u hu=>h u (by simp [hu]))⟩
def qlr (one l:List Bd):Bool:=l.all (fun b=>decide (qgB one b.t=0))
def subB (one l:List Bd):List Bd:=l.map (fun b=>⟨b.name,putT one b.t⟩)
def qdM (l:List Bd)(name:ByteArray)(t:Tm):List Bd:=if 16≤l.length∨qlr [⟨name,t⟩] l=false then [] else ins (subB [⟨name,t⟩] l) (posB l name) ⟨name,t⟩
def qfT (l:List Bd)(name:ByteArray)(t:Tm):Int:=if 16≤l.length∨qlr [⟨name,t⟩] l=false then 2 else 0
theorem qj2 (one:List Bd)(s:ByteArray):∀ l:List Bd,posB (subB one l) s=posB l s
 | []=>rfl
 | b::l=>by
   have ih:=qj2 one s l
   simp only [posB,subB] at ih
   by_cases h:ltS b.name s=true
   ·simp [posB,subB,List.takeWhile_cons,h,ih]
   ·simp [posB,subB,List.takeWhile_cons,h]
theorem qmr (one:List Bd)(h:RisB l):RisB (subB one l):=List.pairwise_map.2 (h.imp fun h=>h)
theorem qev (one l:List Bd):(subB one l).length=l.length:=by simp [subB]
theorem qmG {name:ByteArray}(hn:name.size≤140737488351232)(ht:t.wf)(hm:mayT t=true):BOk [⟨name,t⟩]:=⟨List.pairwise_singleton _ _,by simp,fun b hb=>by simp only [List.mem_singleton] at hb;subst hb;exact ⟨⟨hn,ht⟩,hm⟩⟩
theorem qqE (l:List Bd)(hl:BOk l)(name:ByteArray)(hn:name.size≤140737488351232)(t:Tm)(ht:t.wf)(hm:mayT t=true):PF 258 [bdA l,sv name,tmA false t] (.tup [.dat true 5 (bdDs (qdM l name t)),iv (qfT l name t)]):=by
 have hlen:=qaR l
 have hone:=qmG hn ht hm
 have hll:=hl.len
 have key:=qsO 5 t (qgy hm).1 ht
 rw [qmE 5 t 24 hm] at key
 refine qh2 (Post:=fun r O=>((16≤l.length∨qlr [⟨name,t⟩] l=false)∧r=.tup [.imm (.slice none 0 0),iv 2]∨r=.tup [.dat true 5 (bdDs (qdM l name t)),iv (qfT l name t)])∧O=[]) ?_ (fun r O' h=>by
  obtain ⟨⟨h1,rfl⟩|rfl,rfl⟩:=h
  ·exact ⟨_,.tup (.cons (.nil (f:=true) (k:=5)) (.cons .refl .nil)),by rw [qdM,qfT,if_pos h1,if_pos h1];rfl,rfl⟩
  ·exact ⟨_,.refl,rfl,rfl⟩)
 refine qI Tryz.func258 E Tryz.ntmps258 zL fun c hL hQ hDD=>(qd (qb (qt E E zD (q6 5 E E E) E (zX E (zX E (zK ?_))))));refine qd (qd (qb (zX E (zA E (qu E qA E) (zA E (qj E E E E) (zK (qo E (fun c0=>?_) (fun c0=>?_))))))))
 ·simp only[↓cqA,cqB]at c0
  refine qd (qb (zX E (zX E (zK (qn (qm (zI hL (qg E (qg E qh)) ?_ ?_)))))))
  ·rfl
  exact ⟨.inl ⟨.inl zO,rfl⟩,rfl⟩
 simp only[↓cqA,cqB]at c0
 refine qr (qa (qd (qb (zX E (zA E (qF E qz E E E E) (zA E (qaF E qa7 E qez E E) (qt E E zD (qaj 22 E qA qa7 E E zD zD zD E E E) E (qcE 22 false 1 E E E E (zX E (qc ?_))))))))))
 refine qa (qd (qb (zX E (zK (qd (qd ?_))))));refine qb (zX E (zA E (qu E qA E) (zX E (zK (qv (qac (l.length) (fun k=>k≤l.length∧∀ (j:Nat) (b:Bd),j<k→l[j]?=some b→qgB [⟨name,t⟩] b.t=0) (fun k=>⟨[(1,sv name),(5,.ptr 5 0),(8,.row 22),(9,.row 9),(23,bdA l),(24,iv (bdDs l).length),(25,iv (k:Int))],[(5,.box (lift false (tmD t))),(22,.rowd 143 5 false (bdDs [⟨name,t⟩])),(9,.rowd 143 5 true (bdDs (subB [⟨name,t⟩] (l.take k))))]⟩) (⟨by omega,fun j b hj=>absurd hj zO⟩) ?_ (fun k hk hp=>?_)))))))
 ·exact Sub.trans (qam (t:=9) (l:=9) 143 5 true E E) (qC (zC E (zC E (zC E (zC E (zC E (zC E (zC E SubT.nil))))))) (SubO.cons (qU E (by rfl)) (SubO.cons (qU E (by rfl)) (SubO.cons (qU E (by rfl)) SubO.nil))) E E (noL' (noL hL) _))
 have hl2:(bdDs (subB [⟨name,t⟩] (l.take k))).length≤l.length:=by rw [qaR,qev,List.length_take];omega
 refine qd (qb (zA E (qj E E E E) (zK (qd (qo E (fun c1=>?_) (fun c1=>?_))))))
 ·simp only[↓cqA,cqB]at c1
  obtain ⟨u,hu⟩:=qM (l:=l) (k:=k) (by omega)
  have hum:=hl.el u (List.mem_of_getElem? hu)
  refine qr (qa (qd (qv (qd (qb (zA E (qp E qA E E zO (qbj hu)) (zA E (qD E qa1 E E) ?_)))))))
  refine qt E E zD (qat 11 E qa7 E) E (qT E E E qa1 E E E E E E E E E (zK (qd (qb (zX E (zA E (qe E qbc E) ?_))))));refine zA E (qi E qz E E E E E) (qH (avs:=[_,_]) true E E E zD qof E E (Into_ok [⟨name,t⟩] hone u.t (qgy hum.2).1 hum.1.2) E E (zX E (zA E (qS E E E) (zA E (qS E E E) ?_))))
  refine qt E E zD (qat 12 E qaJ E) E (qT E E E qz E E E E E E E E E (zX E (zK (qd (qd (qb ?_))))));refine zX E (zA E (qj E E E E) (zK (qo E (fun c2=>?_) (fun c2=>?_))))
  ·simp only[↓cqA,cqB]at c2
   refine qd (qb (zX E (zX E (zX E (zK (qn ?_))))));refine qm (qP (qm (qm (qP (qm (zI hL (qg E (qg E qh)) ?_ ?_))))))
   ·rfl
   refine ⟨.inl ⟨.inr ?_,?_⟩,rfl⟩
   ·refine List.all_eq_false.2 ⟨u,List.mem_of_getElem? hu,by simpa using c2⟩
   ·have:qgB [⟨name,t⟩] u.t=2:=by
     unfold qgB at c2 ⊢
     split
     ·rename_i h;rw [if_pos h] at c2;exact absurd E c2
     ·rfl
    rw [this];rfl
  simp only[↓cqA,cqB]at c2
  obtain ⟨hput,hit⟩:=qiM c2
  rw [hit]
  refine qr (qa (qb (zX E (zA E (qe E qa5 E) (zA E (qi E qar E E E E E) (zA E (qF E qz E E E E) (zA E (qaF E qa7 E qez E E) (qt E E zD (qaj 44 E qA qa7 E E zD zD zD E E E) E (qbW E E zD (qaU 45 qbr E E E E E E E E (noL hL _) zO E) E ?_)))))))))
  refine zX E (qc (qR (qa (qb (zA E (qO E E E zO) (zX E (qc ?_)))))));refine qa ?_;refine ⟨?_,?_,?_⟩
  ·omega
  ·refine ⟨by omega,fun j b hj hb=>?_⟩
   by_cases hjk:j<k
   ·exact hp.2 j b hjk hb
   ·rw [show j=k by omega,hu] at hb;cases hb;exact c2
  exact Sub.trans (qZ 45 9 (noL hL _) (noL hL _)) (qC (zC E (zC E (zC E (zC E (zC E (zC E (zC E SubT.nil))))))) (SubO.cons (qU E (by rfl)) (SubO.cons (qU E (by rfl)) (SubO.cons (qU E (by rw [qas hu,subB,subB,List.map_append,bdDs,bdDs,List.map_append];rfl)) SubO.nil))) E E (noL' (noL hL) _))
 simp only[↓cqA,cqB]at c1
 have hk2:l.take k=l:=List.take_of_length_le (by omega)
 rw [hk2]
 have hgood:qlr [⟨name,t⟩] l=true:=List.all_eq_true.2 fun b hb=>by
  obtain ⟨j,hj⟩:=List.getElem?_of_mem hb
  simpa using hp.2 j b (by have:=(List.getElem?_eq_some_iff.1 hj).1;omega) hj
 have hris:=qmr [⟨name,t⟩] hl.ris
 have hsl:=qev [⟨name,t⟩] l
 have hbl:=qaR (subB [⟨name,t⟩] l)
 have hpl:=qgv (subB [⟨name,t⟩] l) name
 refine qV (qq (qq (qad ?_)));refine qa (qd (qb (zX E (zX E (qH (avs:=[_,_]) true E E E zD qhf E E (qpb (subB [⟨name,t⟩] l) name hris zO) E E (zX E (zA E (qS E E E) (zA E (qS E E E) ?_))))))))
 refine zX E (zX E (zK (qd (qb (zX E (zX E ?_))))));refine zX E (zA E (qF E qz E E E E) (qH (avs:=[_]) true E E E zD qib E E (key) E E (zA E (qaF E qa7 E qez E E) (qt E E zD (qaj 59 E qA qa7 E E zD zD zD E E E) E (qcE 59 true 1 E E E E (qeo ⟨[(60,.row 9)],[(9,.rowd 143 5 true (ins (bdDs (subB [⟨name,t⟩] l)) (posB (subB [⟨name,t⟩] l) name) (bdD ⟨name,t⟩)))]⟩ (fun Q2 K=>?_) ?_))))))
 ·refine qab (qC (T1:=[(53,.row 9),(54,iv (posB (subB [⟨name,t⟩] l) name:Int)),(59,.row 59)]) (O1:=[(9,.rowd 143 5 true (bdDs (subB [⟨name,t⟩] l))),(59,.rowd 143 5 true [bdD ⟨name,t⟩])]) (zB E (zB E (zB E SubT.nil))) (SubO.cons E (SubO.cons E SubO.nil)) E E (noL' (noL hL) _)) (qdG (l:=9) E zD (noL hL _) (fun he=>?_) (fun cap h1 h2=>?_))
  ·have hp0:posB (subB [⟨name,t⟩] l) name=0:=by rw [he] at hbl;simp at hbl;omega
   rw [hp0] at K ⊢
   rw [he] at K
   refine qhG (avs:=[_,_,_]) E E E zD qbo E E (qjP true (bdD ⟨name,t⟩) E) E (passT (.cons E trivial E .nil)) (by rintro r O' ⟨_,rfl⟩;exact frB E) ?_
   rintro r O' ⟨rfl,rfl⟩
   exact qab (Sub.trans (qZ 200 9 (noL hL _) (noL hL _)) (qC (zB E SubT.nil) (SubO.cons E SubO.nil) E E (noL' (noL hL) _))) K
  ·refine qhG (avs:=[_,_,_]) E E E zD qbo E E (qnd true _ (bdD ⟨name,t⟩) (posB (subB [⟨name,t⟩] l) name) cap zO h1 h2 (fun x hx=>by obtain ⟨b,_,rfl⟩:=List.mem_map.1 hx;rfl) E zO) E (passT (.cons E trivial E (.cons E trivial E .nil))) (by rintro r O' ⟨junk,⟨_,_,rfl⟩|⟨cap',_,_,rfl⟩⟩<;>exact frB E) ?_
   rintro r O' ⟨junk,⟨rfl,hj,rfl⟩|⟨cap',rfl,hj,rfl⟩⟩
   ·exact qab (Sub.trans (qbm (l:=9) (cap:=cap) (n:=(bdDs (subB [⟨name,t⟩] l)).length+1) (ins (bdDs (subB [⟨name,t⟩] l)) (posB (subB [⟨name,t⟩] l) name) (bdD ⟨name,t⟩)) E (noL hL _) ⟨junk,rfl⟩ (by rw [qbw _ _ _ (by omega)]) (by rw [hj];simp)) (qC (SubT.cons (qaw rfl (by simp [AV.rp,clV])) SubT.nil) (SubO.cons rfl SubO.nil) rfl rfl (noL' (noL hL) _))) K
   ·exact qab (Sub.trans (qbm (l:=200) (cap:=cap') (n:=(bdDs (subB [⟨name,t⟩] l)).length+1) (ins (bdDs (subB [⟨name,t⟩] l)) (posB (subB [⟨name,t⟩] l) name) (bdD ⟨name,t⟩)) E (noL hL _) ⟨junk,rfl⟩ (by rw [qbw _ _ _ (by omega)]) (by rw [hj];simp)) (Sub.trans (qC (T1:=[(60,.row 200)]) (O1:=[(200,_)]) (SubT.cons (qaw rfl (by simp [AV.rp,clV])) SubT.nil) (SubO.cons rfl SubO.nil) rfl rfl (noL' (noL hL) _)) (Sub.trans (qZ 200 9 (noL hL _) (noL hL _)) (qC (zB rfl SubT.nil) (SubO.cons rfl SubO.nil) rfl rfl (noL' (noL hL) _))))) K
 refine zX E (zX E (qab (qaG (l:=9) E zD (noL hL _) E E) (zK (qn (zI hL (qg E (qg E qh)) ?_ ?_)))))
 ·rfl
 refine ⟨.inr ?_,rfl⟩
 have e:bdDs (ins (subB [⟨name,t⟩] l) (posB l name) ⟨name,t⟩)=ins (bdDs (subB [⟨name,t⟩] l)) (posB (subB [⟨name,t⟩] l) name) (bdD ⟨name,t⟩):=by
  rw [qj2,bdDs,qia];rfl
 rw [qdM,qfT,if_neg (by simp [hgood];omega),if_neg (by simp [hgood];omega),e]
 rfl
theorem qpx (es:List (List D))(hes:∀ d∈es,d.length=5)(hb:es.length*72≤140737488355328):AC Tryz.prog 321 [.dat false 5 es] [] (fun r O=>r=.row 2∧O=[(2,.rowd 143 5 false es)]):=by
 refine qI Tryz.func321 E Tryz.ntmps321 zL fun c hL hQ hDD=>(qd (qb (zX E (zK (qd (qd ?_))))));refine qb (zX E (qmb E E zD qA E E (fun g4 hg4=>?_)));refine zK (qo E (fun c0=>?_) (fun c0=>?_))
 ·refine qd (qb (zX E (qab (qam (t:=2) (l:=2) 143 5 false E E) (zK (qn (qm ?_))))))
  change retQ _ _ _ _ _ _ _
  have he:=hg4 c0
  subst he
  refine retO (O':=[(2,_)]) (.inl E) (qg E qh) (SubO.cons E SubO.nil) ?_ ?_ (noL' (noL hL) _) ?_
  ·rfl
  ·rfl
  exact ⟨rfl,rfl⟩
 refine qr (qa (qd (qb (qt E E zD (qg2 5 false E qA qa7) E (zX E (qcG 7 qbr E E zD E E E (qmy hes E) E hes (noL hL _) E (by simpa using hb) E (zX E ?_)))))));refine zK (qn ?_)
 change retQ _ _ _ _ _ _ _
 refine retS (qZ 7 2 (noL hL _) (noL hL _)) (retO (O':=[(2,_)]) (.inl E) (qg E qh) (SubO.cons E SubO.nil) ?_ ?_ (noL' (noL hL) _) ?_)
 ·rfl
 ·rfl
 exact ⟨rfl,rfl⟩
end Go.Proofs.YtpgceiijoedppaaGreat