/- Part 39 of the proof: Ni, Srtm. -/
import Derived.Test.YtpgceiijoedppaaGreatC37
import Derived.Shelf.SlSortCmp.NoneTotal
import Derived.Shelf.SlGeneric
import Derived.Ground.SlsfProg
import Derived.Test.YtpgceiijoedppaaGreatProg
set_option linter.unusedVariables false
set_option linter.unusedSimpArgs false
set_option maxRecDepth 8000
namespace Go.Proofs.YtpgceiijoedppaaGreat
open Go
variable {n:Nat}
theorem qlj (B:Bool)(ts:List Int)(es:List (List D))(hes:es=ts.map (fun x:Int=>[D.imm (.int .i64 x)]))(hlen:ts.length≤140737488351232)(g:FuncId)(caps:List AV)(hen:qY Tryz.prog g)(Os:Nat→List (Nat×Ob))(p:Nat→Bool)(hO:qh0 B caps Os)
  (hstep:∀ k u,ts[k]?=some u→(∀ j,j<k→p j=false)→AC Tryz.prog g (iv u::caps) (Os k) (fun r O=>r=bv (p k)∧O=Os (k+1))):
  AC Tryz.prog 242 [.dat false 1 es,.fn g caps] (Os 0) (fun r O=>∃ m n i,m≤ts.length∧(∀ j,j<m→p j=false)∧((m<ts.length∧p m=true∧i=(m:Int)∧n=m+1)∨(m=ts.length∧i=-1∧n=m))∧r=iv i∧O=Os n):=by
 have hl:es.length=ts.length:=by rw [hes,List.length_map]
 refine qI Tryz.func242 E Tryz.ntmps242 zL fun c hL hQ hDD=>(qd (qb (zX E (zK (qd (qd ?_))))));refine qb (zX E (zA E (qu E qaW E) (zX E (zK (qv (qac (ts.length) (fun k=>k≤ts.length∧∀ j,j<k→p j=false) (fun k=>⟨[(0,.dat false 1 es),(1,.fn g caps),(7,iv es.length),(8,iv (k:Int))],Os k⟩) (⟨by omega,fun j hj=>absurd hj zO⟩) ?_ (fun k hk hp=>?_)))))))
 ·exact qC (zC E (zC E (zC E (zC E SubT.nil)))) (fun _ _ h=>h) (by simp [allT,AV.allL,hO.all]) (hO.self _) (fun l hl=>by rw [hO.dom];exact (hL l).1 hl)
 refine qd (qb (zA E (qj E E E E) (zK (qd (qo E (fun c0=>?_) (fun c0=>?_))))))
 ·simp only[↓cqA,cqB]at c0
  obtain ⟨u,hu⟩:=qM (l:=ts) (k:=k) (by omega)
  refine qr (qa (qd (qv (qd (qb (zX E (zX E ?_)))))));refine zK (qd (qb (zX E (zX E (zX E ?_)))))
  refine zA E (qp E qaW E E zO (by rw [hes,List.getElem?_map];exact congrArg (Option.map (fun x:Int=>[D.imm (.int .i64 x)])) hu)) ?_;refine zA E (qW E qQ E) ?_;refine qag (avs:=[_]) B E E E zD hen E E (hstep k u hu hp.2) (by rw [List.cons_append,List.nil_append];simp only [AV.cvs,hO.cvs];rfl) (hO.pass k) (by rintro r O' ⟨_,rfl⟩ l hl;left;rw [hO.dom] at hl ⊢;exact hl) (by rintro hB r O' ⟨rfl,rfl⟩;exact ⟨rfl,hO.q hB _⟩) ?_
  rintro r O' ⟨rfl,rfl⟩
  refine zK (qo E (fun c1=>?_) (fun c1=>?_))
  ·refine qd (qb (zX E (zX E (zK (qn (qP (qm (qm (qP (qm ?_))))))))))
   change retQ _ _ _ _ _ _ _
   refine retO (.inl E) (qg E qh) SubO.left rfl (hO.self _) (fun l hl=>by rw [hO.dom];exact (hL l).1 hl) ?_
   exact ⟨k,_,_,by omega,hp.2,.inl ⟨by omega,c1,rfl,rfl⟩,rfl,rfl⟩
  refine qr (qR (qa (qb (zA E (qO E E E zO) (zX E (zK ?_))))));refine ⟨?_,?_,?_⟩
  ·omega
  ·refine ⟨by omega,fun j hj=>?_⟩
   by_cases hjk:j<k
   ·exact hp.2 j hjk
   ·rw [show j=k by omega];exact c1
  exact qC (zC E (zC E (zC E (zC E SubT.nil)))) (SubO.left) (by simp [allT,AV.allL,hO.all]) (hO.self _) (fun l hl=>by rw [hO.dom];exact (hL l).1 hl)
 simp only[↓cqA,cqB]at c0
 refine qV (qq (qq (qad ?_)));refine qa (qd (qb (zX E (zK (qn ?_)))))
 change retQ _ _ _ _ _ _ _
 refine retO (.inl E) (qg E qh) (fun _ _ h=>h) E (hO.self _) (fun l hl=>by rw [hO.dom];exact (hL l).1 hl) ?_
 exact ⟨k,_,_,by omega,hp.2,.inr ⟨by omega,rfl,rfl⟩,rfl,rfl⟩
theorem qi4 (B:Bool)(ts:List Int)(es:List (List D))(hes:es=ts.map (fun x:Int=>[D.imm (.int .i64 x)]))(hlen:ts.length≤140737488351232)(g:FuncId)(caps:List AV)(hen:qY Tryz.prog g)(Os:Nat→List (Nat×Ob))(p:Nat→Bool)(hO:qh0 B caps Os)
  (hstep:∀ k u,ts[k]?=some u→(∀ j,j<k→p j=false)→AC Tryz.prog g (iv u::caps) (Os k) (fun r O=>r=bv (p k)∧O=Os (k+1))):
  AC Tryz.prog 180 [.dat false 1 es,.fn g caps] (Os 0) (fun r O=>∃ m n b,m≤ts.length∧(∀ j,j<m→p j=false)∧((m<ts.length∧p m=true∧b=true∧n=m+1)∨(m=ts.length∧b=false∧n=m))∧r=bv b∧O=Os n):=by
 refine qI Tryz.func180 E Tryz.ntmps180 zL fun c hL hQ hDD=>(qd (qb (zX E (zK (qd (qb ?_))))));refine zX E (zX E ?_)
 refine qag (avs:=[_,_]) B E E E zD qfm E E (qlj B ts es hes hlen g caps hen Os p hO hstep) (by simp only [List.append_nil,AV.cvs,AV.cv,hO.cvs];rfl) (hO.pass 0) (by rintro r O' ⟨m,n,i,_,_,_,_,rfl⟩ l hl;left;rw [hO.dom] at hl ⊢;exact hl) (by rintro hB r O' ⟨m,n,i,_,_,_,rfl,rfl⟩;exact ⟨rfl,hO.q hB _⟩) ?_
 rintro r O' ⟨m,n,i,hm,hf,hc,rfl,rfl⟩
 refine zA E (qj E E E E) (zX E (zK (qn ?_)))
 change retQ _ _ _ _ _ _ _
 refine retO (.inl E) (qg E qh) SubO.left rfl (hO.self _) (fun l hl=>by rw [hO.dom];exact (hL l).1 hl) ?_;refine ⟨m,n,_,hm,hf,?_,rfl,rfl⟩
 rcases hc with ⟨h1,h2,rfl,h3⟩|⟨h1,rfl,h3⟩
 ·exact .inl ⟨h1,h2,by simp,h3⟩
 ·exact .inr ⟨h1,by simp,h3⟩
theorem qli (B:Bool)(ts:List Mt)(es:List (List D))(hes:es=ts.map mtD)(hlen:ts.length≤140737488351232)(g:FuncId)(caps:List AV)(hen:qY Tryz.prog g)(Os:Nat→List (Nat×Ob))(p:Nat→Bool)(hO:qh0 B caps Os)
  (hstep:∀ k u,ts[k]?=some u→(∀ j,j<k→p j=false)→AC Tryz.prog g (mtA u::caps) (Os k) (fun r O=>r=bv (p k)∧O=Os (k+1))):
  AC Tryz.prog 113 [.dat false 4 es,.fn g caps] (Os 0) (fun r O=>∃ m n i,m≤ts.length∧(∀ j,j<m→p j=false)∧((m<ts.length∧p m=true∧i=(m:Int)∧n=m+1)∨(m=ts.length∧i=-1∧n=m))∧r=iv i∧O=Os n):=by
 have hl:es.length=ts.length:=by rw [hes,List.length_map]
 refine qI Tryz.func113 E Tryz.ntmps113 zL fun c hL hQ hDD=>(qd (qb (zX E (zK (qd (qd ?_))))));refine qb (zX E (zA E (qu E qw E) (zX E (zK (qv (qac (ts.length) (fun k=>k≤ts.length∧∀ j,j<k→p j=false) (fun k=>⟨[(0,.dat false 4 es),(1,.fn g caps),(7,iv es.length),(8,iv (k:Int))],Os k⟩) (⟨by omega,fun j hj=>absurd hj zO⟩) ?_ (fun k hk hp=>?_)))))))
 ·exact qC (zC E (zC E (zC E (zC E SubT.nil)))) (fun _ _ h=>h) (by simp [allT,AV.allL,hO.all]) (hO.self _) (fun l hl=>by rw [hO.dom];exact (hL l).1 hl)
 refine qd (qb (zA E (qj E E E E) (zK (qd (qo E (fun c0=>?_) (fun c0=>?_))))))
 ·simp only[↓cqA,cqB]at c0
  obtain ⟨u,hu⟩:=qM (l:=ts) (k:=k) (by omega)
  refine qr (qa (qd (qv (qd (qb (zX E (zX E ?_)))))));refine zK (qd (qb (zX E (zX E (zX E ?_)))))
  refine zA E (qp E qw E E zO (by rw [hes,List.getElem?_map];exact congrArg (Option.map mtD) hu)) ?_;refine zA E (qD E qK E E) ?_;refine qag (avs:=[_]) B E E E zD hen E E (hstep k u hu hp.2) (by rw [List.cons_append,List.nil_append];simp only [AV.cvs,hO.cvs];rfl) (hO.pass k) (by rintro r O' ⟨_,rfl⟩ l hl;left;rw [hO.dom] at hl ⊢;exact hl) (by rintro hB r O' ⟨rfl,rfl⟩;exact ⟨rfl,hO.q hB _⟩) ?_
  rintro r O' ⟨rfl,rfl⟩
  refine zK (qo E (fun c1=>?_) (fun c1=>?_))
  ·refine qd (qb (zX E (zX E (zK (qn (qP (qm (qm (qP (qm ?_))))))))))
   change retQ _ _ _ _ _ _ _
   refine retO (.inl E) (qg E qh) SubO.left rfl (hO.self _) (fun l hl=>by rw [hO.dom];exact (hL l).1 hl) ?_
   exact ⟨k,_,_,by omega,hp.2,.inl ⟨by omega,c1,rfl,rfl⟩,rfl,rfl⟩
  refine qr (qR (qa (qb (zA E (qO E E E zO) (zX E (zK ?_))))));refine ⟨?_,?_,?_⟩
  ·omega
  ·refine ⟨by omega,fun j hj=>?_⟩
   by_cases hjk:j<k
   ·exact hp.2 j hjk
   ·rw [show j=k by omega];exact c1
  exact qC (zC E (zC E (zC E (zC E SubT.nil)))) (SubO.left) (by simp [allT,AV.allL,hO.all]) (hO.self _) (fun l hl=>by rw [hO.dom];exact (hL l).1 hl)
 simp only[↓cqA,cqB]at c0
 refine qV (qq (qq (qad ?_)));refine qa (qd (qb (zX E (zK (qn ?_)))))
 change retQ _ _ _ _ _ _ _
 refine retO (.inl E) (qg E qh) (fun _ _ h=>h) E (hO.self _) (fun l hl=>by rw [hO.dom];exact (hL l).1 hl) ?_
 exact ⟨k,_,_,by omega,hp.2,.inr ⟨by omega,rfl,rfl⟩,rfl,rfl⟩
theorem qi3 (B:Bool)(ts:List Mt)(es:List (List D))(hes:es=ts.map mtD)(hlen:ts.length≤140737488351232)(g:FuncId)(caps:List AV)(hen:qY Tryz.prog g)(Os:Nat→List (Nat×Ob))(p:Nat→Bool)(hO:qh0 B caps Os)
  (hstep:∀ k u,ts[k]?=some u→(∀ j,j<k→p j=false)→AC Tryz.prog g (mtA u::caps) (Os k) (fun r O=>r=bv (p k)∧O=Os (k+1))):
  AC Tryz.prog 65 [.dat false 4 es,.fn g caps] (Os 0) (fun r O=>∃ m n b,m≤ts.length∧(∀ j,j<m→p j=false)∧((m<ts.length∧p m=true∧b=true∧n=m+1)∨(m=ts.length∧b=false∧n=m))∧r=bv b∧O=Os n):=by
 refine qI Tryz.func65 E Tryz.ntmps65 zL fun c hL hQ hDD=>(qd (qb (zX E (zK (qd (qb ?_))))));refine zX E (zX E ?_)
 refine qag (avs:=[_,_]) B E E E zD qbE E E (qli B ts es hes hlen g caps hen Os p hO hstep) (by simp only [List.append_nil,AV.cvs,AV.cv,hO.cvs];rfl) (hO.pass 0) (by rintro r O' ⟨m,n,i,_,_,_,_,rfl⟩ l hl;left;rw [hO.dom] at hl ⊢;exact hl) (by rintro hB r O' ⟨m,n,i,_,_,_,rfl,rfl⟩;exact ⟨rfl,hO.q hB _⟩) ?_
 rintro r O' ⟨m,n,i,hm,hf,hc,rfl,rfl⟩
 refine zA E (qj E E E E) (zX E (zK (qn ?_)))
 change retQ _ _ _ _ _ _ _
 refine retO (.inl E) (qg E qh) SubO.left rfl (hO.self _) (fun l hl=>by rw [hO.dom];exact (hL l).1 hl) ?_;refine ⟨m,n,_,hm,hf,?_,rfl,rfl⟩
 rcases hc with ⟨h1,h2,rfl,h3⟩|⟨h1,rfl,h3⟩
 ·exact .inl ⟨h1,h2,by simp,h3⟩
 ·exact .inr ⟨h1,by simp,h3⟩
theorem qoD (l:List Int)(hl:l.length≤1000000000):AC Tryz.prog 179 [.dat false 1 (inDs l)] [] (fun r O=>r=.row 2∧O=[(2,.rowd 3 1 true (inDs l))]):=by
 have hlen:=qbH l
 refine qI Tryz.func179 E Tryz.ntmps179 zL fun c hL hQ hDD=>(qd (qb (zX E (zK (qd (qd ?_))))));refine qb (zX E (qmb E E zD qaW E E (fun g4 hg4=>?_)));refine zK (qo E (fun c0=>?_) (fun c0=>?_))
 ·refine qd (qb (zX E (qab (qam (t:=2) (l:=2) 3 1 true E E) (zK (qn (qm ?_))))))
  change retQ _ _ _ _ _ _ _
  have he:=hg4 c0
  have hl0:l=[]:=by cases l with
   | nil=>rfl
   | cons a l=>simp [inDs] at he
  subst hl0
  refine retO (O':=[(2,_)]) (.inl E) (qg E qh) (SubO.cons E SubO.nil) ?_ ?_ (noL' (noL hL) _) ?_
  ·rfl
  ·rfl
  exact ⟨rfl,rfl⟩
 refine qr ?_;refine qa ?_;refine qd ?_;refine qb ?_;refine qt E E zD (qg2 5 true E qaW qhR) E ?_;refine zX E ?_;refine qbW E E zD (qju 7 qin E E E E (qqj _) E (noL hL _) (qiN _) (by simp;omega) E) E ?_;refine zX E ?_;refine qc ?_;refine qa ?_;refine qn ?_
 change retQ _ _ _ _ _ _ _
 refine retS (qZ 7 2 (noL hL _) (noL hL _)) (retO (O':=[(2,_)]) (.inl E) (qg E qh) (SubO.cons E SubO.nil) ?_ ?_ (noL' (noL hL) _) ?_)
 ·rfl
 ·rfl
 exact ⟨rfl,rfl⟩
theorem qqZ (hn:n≤1000000)(m:Mt)(hm:MOk n m):PF 115 [mtA m] (.agg (lift true (mtD m))):=by
 have hb:=hm.gg.gb.bok
 have hu:=hm.ul
 refine qI Tryz.func115 E Tryz.ntmps115 zL fun c hL hQ hDD=>(qd (qb (qt E E zD (q6 1 E E E) E (qt E E zD (qat 2 E qao E) E (zK (qd ?_))))));refine qX 8 mixed E E E E (zU E (qe E qaH E) (zU E (qi E qaK E E E E E) (zU E (qai (avs:=[_]) true E qpk E E (qpp m.b hb) (fun _=>rfl) E) (zU E (qe E qae E) (zU E (qi E qav E E E E E) (zU E (qe E qaV E) (zU E (qi E qbZ E E E E E) ?_)))))))
 refine qgO E E zD (qbn (avs:=[_]) true E qgF E E (qc0 2 77 (qoD m.u zO)) (fun _=>rfl) E) (qaq ⟨rfl,rfl,?_⟩);refine qab (qaG (l:=77) E zD (noL hL _) E E) (zA E (qaF E qao E qbd E E) (qT E E E qK E E E E E E E E E (zK (qn (zI hL (qaS qK E E E qh) ?_ ?_)))))
 ·rfl
 exact ⟨rfl,rfl⟩
theorem qo1 (hn:n≤1000000)(l:List Mt)(hl:l.length≤1000000)(hm:∀ m∈l,MOk n m):AC Tryz.prog 67 [.dat false 4 (mtDs l)] [] (fun r O=>r=.row 2∧O=[(2,.rowd 55 4 true (mtDs l))]):=by
 have hlen:=qah l
 refine qI Tryz.func67 E Tryz.ntmps67 zL fun c hL hQ hDD=>(qd (qb (zX E (zK (qd (qd ?_))))));refine qb (zX E (zA E (qu E qw E) (zX E (zK (qv (qac (l.length) (fun k=>k≤l.length) (fun k=>⟨[(2,.row 2),(5,.dat false 4 (mtDs l)),(6,iv (mtDs l).length),(7,iv (k:Int))],[(2,.rowd 55 4 true (mtDs (l.take k)))]⟩) zO ?_ (fun k hk hp=>?_)))))))
 ·exact Sub.trans (qam (t:=2) (l:=2) 55 4 true E E) (qC (zC E (zC E (zC E (zC E SubT.nil)))) (SubO.cons (qU E (by rfl)) SubO.nil) E E (noL' (noL hL) _))
 have hl2:(mtDs (l.take k)).length≤l.length:=by rw [qah,List.length_take];omega
 refine qd (qb (zA E (qj E E E E) (zK (qd (qo E (fun c0=>?_) (fun c0=>?_))))))
 ·simp only[↓cqA,cqB]at c0
  obtain ⟨u,hu⟩:=qM (l:=l) (k:=k) (by omega)
  have hum:=hm u (List.mem_of_getElem? hu)
  refine qr (qa (qd (qv (qd (qb (zA E (qp E qw E E zO (qbR hu)) (zA E (qD E qK E E) (qt E E zD (qat 4 E qao E) E (qT E E E qK E E E E E E E E E (zK (qb (zX E (zA E (qF E qK E E E E) (qH (avs:=[_]) true E E E zD qpi E E (qqZ hn u hum) E E (qt E E zD (qaj 14 E qw qao E E zD zD zD E E E) E (qbW E E zD (qaU 15 qbL E E E E E E E E (noL hL _) zO E) E ?_))))))))))))))))
  refine zX E (qc (qR (qa (qb (zA E (qO E E E zO) (zX E (qc ?_)))))));refine qa ?_;refine ⟨?_,?_,?_⟩
  ·omega
  ·omega
  exact Sub.trans (qZ 15 2 (noL hL _) (noL hL _)) (qC (zC E (zC E (zC E (zC E SubT.nil)))) (SubO.cons (qU E (by rw [qas hu,qr8];rfl)) SubO.nil) E E (noL' (noL hL) _))
 simp only[↓cqA,cqB]at c0
 refine qV (qq (qq (qad ?_)));refine qa (qd (qb (zX E (zX E (zK (qn ?_))))))
 change retQ _ _ _ _ _ _ _
 refine retO (O':=[(2,_)]) (.inl E) (qg E qh) (SubO.cons E SubO.nil) ?_ ?_ (noL' (noL hL) _) ?_
 ·rfl
 ·rfl
 exact ⟨rfl,by rw [List.take_of_length_le zO]⟩
end Go.Proofs.YtpgceiijoedppaaGreat
namespace Go.Proofs
open Go.Shelf
def Tryz.srtM_ren:Go.Shelf.Ren:=⟨fun|6=>209|15=>191|14=>263|28=>252|29=>253|20=>296|21=>297|22=>298|23=>299|24=>300|25=>301|26=>302|27=>303|46=>324|47=>285|48=>286|49=>325|50=>326|57=>342|n=>n,fun|22=>24|24=>55|25=>146|3=>3|39=>125|0=>0|53=>263|55=>265|4=>4|46=>257|45=>256|50=>196|5=>5|9=>9|66=>295|70=>193|76=>321|77=>322|n=>n,fun|n=>n⟩
theorem Tryz.srtM:Go.Proofs.SlLaysF0.n6 Tryz.prog Tryz.srtM_ren:={
 mixed:=by kernel_rfl
 f6:=⟨Tryz.f209.name,by decide,Tryz.func209.trans (congrArg some (by kernel_rfl))⟩
 f14:=⟨Tryz.f263.name,by decide,Tryz.func263.trans (congrArg some (by kernel_rfl))⟩
 f15:=Tryz.func191.trans (congrArg some (by kernel_rfl))
 f20:=⟨Tryz.f296.name,by decide,Tryz.func296.trans (congrArg some (by kernel_rfl))⟩
 f21:=⟨Tryz.f297.name,by decide,Tryz.func297.trans (congrArg some (by kernel_rfl))⟩
 f22:=⟨Tryz.f298.name,by decide,Tryz.func298.trans (congrArg some (by kernel_rfl))⟩
 f23:=⟨Tryz.f299.name,by decide,Tryz.func299.trans (congrArg some (by kernel_rfl))⟩
 f24:=⟨Tryz.f300.name,by decide,Tryz.func300.trans (congrArg some (by kernel_rfl))⟩
 f25:=⟨Tryz.f301.name,by decide,Tryz.func301.trans (congrArg some (by kernel_rfl))⟩
 f26:=⟨Tryz.f302.name,by decide,Tryz.func302.trans (congrArg some (by kernel_rfl))⟩
 f27:=⟨Tryz.f303.name,by decide,Tryz.func303.trans (congrArg some (by kernel_rfl))⟩
 f28:=Tryz.func252.trans (congrArg some (by kernel_rfl))
 f29:=Tryz.func253.trans (congrArg some (by kernel_rfl))
 f46:=⟨Tryz.f324.name,by decide,Tryz.func324.trans (congrArg some (by kernel_rfl))⟩
 f47:=Tryz.func285.trans (congrArg some (by kernel_rfl))
 f48:=Tryz.func286.trans (congrArg some (by kernel_rfl))
 f49:=⟨Tryz.f325.name,by decide,Tryz.func325.trans (congrArg some (by kernel_rfl))⟩
 f50:=⟨Tryz.f326.name,by decide,Tryz.func326.trans (congrArg some (by kernel_rfl))⟩
 f57:=⟨Tryz.f342.name,by decide,Tryz.func342.trans (congrArg some (by kernel_rfl))⟩
 t0:=Tryz.underlying0
 a0:=Tryz.isAgg0
 z0:=Tryz.sizeOf0
 v0:=Tryz.zeroValue0
 t3:=Tryz.underlying3
 a3:=Tryz.isAgg3
 z3:=Tryz.sizeOf3
 v3:=Tryz.zeroValue3
 t4:=Tryz.underlying4
 a4:=Tryz.isAgg4
 z4:=Tryz.sizeOf4
 v4:=Tryz.zeroValue4
 t5:=Tryz.underlying5
 a5:=Tryz.isAgg5
 z5:=Tryz.sizeOf5
 v5:=Tryz.zeroValue5
 t9:=Tryz.underlying9
 a9:=Tryz.isAgg9
 z9:=Tryz.sizeOf9
 v9:=Tryz.zeroValue9
 t22:=Tryz.underlying24
 a22:=Tryz.isAgg24
 z22:=Tryz.sizeOf24
 v22:=Tryz.zeroValue24
 t25:=Tryz.underlying146
 a25:=Tryz.isAgg146
 z25:=Tryz.sizeOf146
 v25:=Tryz.zeroValue146
 t39:=Tryz.underlying125
 a39:=Tryz.isAgg125
 z39:=Tryz.sizeOf125
 v39:=Tryz.zeroValue125
 t45:=Tryz.underlying256
 a45:=Tryz.isAgg256
 z45:=Tryz.sizeOf256
 v45:=Tryz.zeroValue256
 t46:=Tryz.underlying257
 a46:=Tryz.isAgg257
 z46:=Tryz.sizeOf257
 v46:=Tryz.zeroValue257
 t50:=Tryz.underlying196
 a50:=Tryz.isAgg196
 z50:=Tryz.sizeOf196
 v50:=Tryz.zeroValue196
 t53:=Tryz.underlying263
 a53:=Tryz.isAgg263
 z53:=Tryz.sizeOf263
 v53:=Tryz.zeroValue263
 t55:=Tryz.underlying265
 a55:=Tryz.isAgg265
 z55:=Tryz.sizeOf265
 v55:=Tryz.zeroValue265
 t66:=Tryz.underlying295
 a66:=Tryz.isAgg295
 z66:=Tryz.sizeOf295
 v66:=Tryz.zeroValue295
 t70:=Tryz.underlying193
 a70:=Tryz.isAgg193
 z70:=Tryz.sizeOf193
 v70:=Tryz.zeroValue193
 t76:=Tryz.underlying321
 a76:=Tryz.isAgg321
 z76:=Tryz.sizeOf321
 v76:=Tryz.zeroValue321
 t77:=Tryz.underlying322
 a77:=Tryz.isAgg322
 z77:=Tryz.sizeOf322
 v77:=Tryz.zeroValue322 }
end Go.Proofs