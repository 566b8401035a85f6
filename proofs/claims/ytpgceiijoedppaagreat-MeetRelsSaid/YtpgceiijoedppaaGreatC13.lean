/- Part 13 of the proof: Fc, Iter. -/
import Derived.Test.YtpgceiijoedppaaGreatC12
import Derived.Shelf.SlIter.Nil
import Derived.Shelf.SortM.Plain
import Derived.Shelf.SortM.SortNone
import Derived.Ground.GgzProg
import Derived.Ground.SlgmProg
import Derived.Shelf.SlGeneric
import Derived.Test.YtpgceiijoedppaaGreatProg
set_option linter.unusedVariables false
set_option linter.unusedSimpArgs false
set_option maxRecDepth 8000
namespace Go.Proofs.YtpgceiijoedppaaGreat
open Go
def cmpI (a b:Int):Int:=if a<b then -1 else if b<a then 1 else 0
def cmpS (a b:ByteArray):Int:=Lib.compareBytes a.data.toList b.data.toList
theorem qqi (x:Int):PFm 243 [iv x] (bv false):=by
 refine qI Tryz.func243 E Tryz.ntmps243 zL fun c hL hQ hDD=>(qd (qb (zX E (zK (qd (qb ?_))))));refine zX E (zX E (zA E (qj E E E E) (zX E (zK (qn (zI hL (qg E qh) ?_ ?_))))))
 ·rfl
 refine ⟨q7 ?_,rfl⟩
 simp
theorem qgg (x y:Int):PFm 184 [iv x,iv y] (iv (cmpI x y)):=by
 refine qI Tryz.func184 E Tryz.ntmps184 zL fun c hL hQ hDD=>(qd (qb (zX E (zK (qd (qb ?_))))));refine zX E (qH (avs:=[_]) true E E E zD qgQ E E (qqi _) E E (zX E (zK (qd (qb (zX E ?_))))))
 refine qH (avs:=[_]) true E E E zD qgQ E E (qqi _) E E (zX E (zK (qd (qd (qb (zX E ?_))))));refine zK (qo E (fun c0=>?_) (fun c0=>?_))
 ·cases c0
 simp only[↓cqA,cqB]at c0
 refine qr (qa (qd (qd (qb (zX E (zK ?_))))));refine qo E (fun c2=>?_) (fun c2=>?_)
 ·cases c2
 simp only[↓cqA,cqB]at c2
 refine qr (qa (qd (qd (qb (zX E (zX E (zA E (qj E E E E) ?_)))))));refine zK (qo E (fun c3=>?_) (fun c3=>?_))
 ·simp only[↓cqA,cqB]at c3
  refine qd (qb (zX E (zK (qn (qm (zI hL (qg E qh) ?_ ?_))))))
  ·rfl
  refine ⟨qbx ?_,rfl⟩
  simp only [cmpI];split<;>(try split)<;>omega
 simp only[↓cqA,cqB]at c3
 refine qr (qa (qd (qd (qb (zX E (zX E (zA E (qj E E E E) ?_)))))));refine zK (qo E (fun c4=>?_) (fun c4=>?_))
 ·simp only[↓cqA,cqB]at c4
  refine qd (qb (zX E (zK (qn (qm (zI hL (qg E qh) ?_ ?_))))))
  ·rfl
  refine ⟨qbx ?_,rfl⟩
  simp only [cmpI];split<;>(try split)<;>omega
 simp only[↓cqA,cqB]at c4
 refine qr (qa (qd (qb (zX E (zK (qn (zI hL (qg E qh) ?_ ?_)))))))
 ·rfl
 refine ⟨qbx ?_,rfl⟩
 simp only [cmpI];split<;>(try split)<;>omega
def orL:List Int→Int
 | []=>0
 | a::l=>if a=0 then orL l else a
theorem qmF:∀ (l:List Int) (k:Nat),(∀ j x,j<k→l[j]?=some x→x=0)→orL l=orL (l.drop k)
 | l,0,_=>by simp
 | [],k+1,_=>by simp
 | a::l,k+1,h=>by
   have h0:=h 0 a (by omega) (by simp)
   simp only [orL,if_pos h0,List.drop_succ_cons]
   exact qmF l k fun j x hj hx=>h (j+1) x zO (by simpa using hx)
def qo7 (l:List Int):List (List D):=l.map fun x=>[.imm (.int .i64 x)]
theorem qsl {l:List Int}{k:Nat}{x:Int}(h:l[k]?=some x):(qo7 l)[k]?=some [.imm (.int .i64 x)]:=by simp [qo7,h]
theorem qm6 (l:List Int)(hl:l.length≤1000000):PFm 182 [.dat false 1 (qo7 l)] (iv (orL l)):=by
 have hlen:(qo7 l).length=l.length:=by simp [qo7]
 refine qI Tryz.func182 E Tryz.ntmps182 zL fun c hL hQ hDD=>(qd (qb (zX E (zK (qd (qb ?_))))));refine zX E (zK (qd (qd (qb (zX E (zA E (qu E qaW E) (zX E (zK (qv (qac (l.length) (fun k=>k≤l.length∧∀ j x,j<k→l[j]?=some x→x=0) (fun k=>⟨[(3,iv 0),(6,.dat false 1 (qo7 l)),(7,iv (qo7 l).length),(8,iv (k:Int))],[]⟩) (⟨by omega,fun j x hj=>absurd hj zO⟩) ?_ (fun k hk hp=>?_)))))))))))
 ·exact zR hL (zC E (zC E (zC E (zC E SubT.nil)))) SubO.nil
 refine qd (qb (zA E (qj E E E E) (zK (qd (qo E (fun c0=>?_) (fun c0=>?_))))))
 ·simp only[↓cqA,cqB]at c0
  obtain ⟨u,hu⟩:=qM (l:=l) (k:=k) (by omega)
  refine qr (qa (qd (qv (qd (qb (zA E (qp E qaW E E zO (qsl hu)) (zA E (qW E qQ E) ?_)))))))
  refine zX E (zK (qd (qb (zX E (zX E (zA E (qj E E E E) ?_))))));refine zK (qo E (fun c1=>?_) (fun c1=>?_))
  ·simp only[↓cqA,cqB]at c1
   refine qd (qb (zX E (zX E (zK (qn (qP (qm (qm (qP (qm (zI hL (qg E qh) ?_ ?_)))))))))))
   ·rfl
   refine ⟨qbx ?_,rfl⟩
   rw [qmF l k hp.2,List.drop_eq_getElem_cons (by omega),orL]
   have h2:=List.getElem?_eq_some_iff.1 hu
   rw [h2.2,if_neg (by simpa using c1)]
  simp only[↓cqA,cqB]at c1
  refine qr (qR (qa (qb (zA E (qO E E E zO) (zX E (zK ?_))))));refine ⟨?_,?_,?_⟩
  ·omega
  ·refine ⟨by omega,fun j x hj hx=>?_⟩
   by_cases hjk:j<k
   ·exact hp.2 j x hjk hx
   ·rw [show j=k by omega,hu] at hx;cases hx;simpa using c1
  exact zR hL (zC E (zC E (zC E (zC E SubT.nil)))) SubO.nil
 simp only[↓cqA,cqB]at c0
 refine qV (qq (qq (qad ?_)));refine qa (qd (qb (zX E (zX E (zK (qn (zI hL (qg E qh) ?_ ?_)))))))
 ·rfl
 refine ⟨qbx ?_,rfl⟩
 rw [qmF l k hp.2,List.drop_eq_nil_of_le (by omega),orL]
theorem qjU (a b:ByteArray):PFm 280 [sv a,sv b] (iv (cmpS a b)):=by
 refine qI Tryz.func280 E Tryz.ntmps280 zL fun c hL hQ hDD=>(qd (qb (zX E (zK (qd (qb ?_))))));refine zX E (zX E (zA E (qmw Tryz.func314 (by kernel_rfl) (by kernel_rfl) (by kernel_rfl) (by kernel_rfl) E E E) (zX E (zK (qn (zI hL (qg E qh) ?_ ?_))))))
 ·rfl
 exact ⟨rfl,rfl⟩
theorem qew (a b:ByteArray):PFm 237 [sv a,sv b] (iv (cmpS a b)):=by
 refine qI Tryz.func237 E Tryz.ntmps237 zL fun c hL hQ hDD=>(qd (qb (zX E (zK (qd (qb ?_))))));refine zX E (zX E (qH (avs:=[_,_]) true E E E zD qek E E (qjU _ _) E E (zX E (zK (qn (zI hL (qg E qh) ?_ ?_))))))
 ·rfl
 exact ⟨rfl,rfl⟩
def cmpL (f:Tm→Tm→Int):List Tm→List Tm→Int
 | [],[]=>0
 | [],_::_=>-1
 | _::_,[]=>1
 | a::x,b::y=>if f a b=0 then cmpL f x y else f a b
theorem qhk (f:Tm→Tm→Int):∀ (x y:List Tm) (k:Nat),k≤x.length→k≤y.length→(∀ j a b,j<k→x[j]?=some a→y[j]?=some b→f a b=0)→cmpL f x y=cmpL f (x.drop k) (y.drop k)
 | x,y,0,_,_,_=>by simp
 | [],y,k+1,h,_,_=>by simp at h
 | x,[],k+1,_,h,_=>by simp at h
 | a::x,b::y,k+1,h1,h2,h=>by
   have h0:=h 0 a b (by omega) (by simp) (by simp)
   simp only [cmpL,if_pos h0,List.drop_succ_cons]
   exact qhk f x y k (by simpa using h1) (by simpa using h2) fun j a b hj hx hy=>h (j+1) a b zO (by simpa using hx) (by simpa using hy)
theorem qlE (x y:List Tm)(hx:x.length≤140737488351232)(hy:y.length≤140737488351232)(f:Tm→Tm→Int)(g:FuncId)(hen:qY Tryz.prog g)(hg:∀ a b,a∈x→b∈y→PFm g [tmA false a,tmA false b] (iv (f a b))):
  PFm 254 [.dat false 4 (tmDs x),.dat false 4 (tmDs y),.fn g []] (iv (cmpL f x y)):=by
 have hlx:=qaY x
 have hly:=qaY y
 refine qI Tryz.func254 E Tryz.ntmps254 zL fun c hL hQ hDD=>(qd (qb (zX E (zK (qd (qd ?_))))));refine qb (zX E (zA E (qu E qN E) (zX E (zK (qv (qac (x.length) (fun k=>k≤x.length∧k≤y.length∧∀ j a b,j<k→x[j]?=some a→y[j]?=some b→f a b=0) (fun k=>⟨[(0,.dat false 4 (tmDs x)),(1,.dat false 4 (tmDs y)),(2,.fn g []),(11,.dat false 4 (tmDs x)),(12,iv (tmDs x).length),(13,iv (k:Int))],[]⟩) (⟨by omega,by omega,fun j a b hj=>absurd hj zO⟩) ?_ (fun k hk hp=>?_)))))))
 ·exact zR hL (zC E (zC E (zC E (zC E (zC E (zC E SubT.nil)))))) SubO.nil
 refine qd (qb (zA E (qj E E E E) (zK (qd (qo E (fun c0=>?_) (fun c0=>?_))))))
 ·simp only[↓cqA,cqB]at c0
  obtain ⟨u,hu⟩:=qM (l:=x) (k:=k) (by omega)
  have hu2:=List.getElem?_eq_some_iff.1 hu
  refine qr (qa (qd (qv (qd (qb (zX E (zA E (qp E qN E E zO (qbP hu)) ?_)))))));refine zA E (qD E qz E E) ?_
  refine qt E E zD (qat 8 E qaJ E) E (zX E (qT E E E qz E E E E E E E E E (zK (qd (qd (qb ?_))))));refine zX E (zX E (zA E (qu E qN E) (zA E (qj E E E E) (zK (qo E (fun c1=>?_) (fun c1=>?_))))))
  ·simp only[↓cqA,cqB]at c1
   refine qd (qb (zX E (zK (qn (qm (qP (qm (qm (qP (qm (zI hL (qg E qh) ?_ ?_)))))))))))
   ·rfl
   refine ⟨qbx ?_,rfl⟩
   rw [qhk f x y k (by omega) (by omega) hp.2.2,List.drop_eq_getElem_cons (by omega),show List.drop k y=[] from List.drop_eq_nil_of_le (by omega),cmpL]
  simp only[↓cqA,cqB]at c1
  obtain ⟨v,hv⟩:=qM (l:=y) (k:=k) (by omega)
  have hv2:=List.getElem?_eq_some_iff.1 hv
  refine qr (qa (qd (qb (zX E (zX E (zA E (qp E qN E E zO (qbP hv)) (zA E (qD E qz E E) ?_)))))))
  refine qt E E zD (qat 9 E qaJ E) E (qT E E E qz E E E E E E E E E (zK (qd (qb (zX E (zA E (qF E qz E E E E) ?_))))));refine zA E (qF E qz E E E E) ?_
  refine qH (avs:=[_,_]) true E E E zD hen E E (hg u v (List.mem_of_getElem? hu) (List.mem_of_getElem? hv)) E E (zX E (zK (qd (qb (zX E (zA E (qj E E E E) ?_))))));refine zK (qo E (fun c2=>?_) (fun c2=>?_))
  ·simp only[↓cqA,cqB]at c2
   refine qd (qb (zX E (zX E (zK (qn (qP (qm (qm (qP (qm (zI hL (qg E qh) ?_ ?_)))))))))))
   ·rfl
   refine ⟨qbx ?_,rfl⟩
   rw [qhk f x y k (by omega) (by omega) hp.2.2,List.drop_eq_getElem_cons (by omega),List.drop_eq_getElem_cons (l:=y) (by omega),cmpL,hu2.2,hv2.2,if_neg (by simpa using c2)]
  simp only[↓cqA,cqB]at c2
  refine qr (qR (qa (qb (zA E (qO E E E zO) (zX E (zK ?_))))));refine ⟨?_,?_,?_⟩
  ·omega
  ·refine ⟨by omega,by omega,fun j a b hj hx hy=>?_⟩
   by_cases hjk:j<k
   ·exact hp.2.2 j a b hjk hx hy
   ·rw [show j=k by omega] at hx hy;rw [hu] at hx;rw [hv] at hy;cases hx;cases hy;simpa using c2
  exact zR hL (zC E (zC E (zC E (zC E (zC E (zC E SubT.nil)))))) SubO.nil
 simp only[↓cqA,cqB]at c0
 refine qV (qq (qq (qad ?_)));refine qa (qd (qd (qb (zX E (zA E (qu E qN E) (zX E (zA E (qu E qN E) ?_)))))));refine zA E (qj E E E E) (zK (qo E (fun c3=>?_) (fun c3=>?_)))
 ·simp only[↓cqA,cqB]at c3
  refine qd (qb (zX E (zK (qn (qm (zI hL (qg E qh) ?_ ?_))))))
  ·rfl
  refine ⟨qbx ?_,rfl⟩
  rw [qhk f x y k (by omega) (by omega) hp.2.2,List.drop_eq_nil_of_le (by omega),List.drop_eq_getElem_cons (l:=y) (by omega),cmpL]
 simp only[↓cqA,cqB]at c3
 refine qr (qa (qd (qb (zX E (zK (qn (zI hL (qg E qh) ?_ ?_)))))))
 ·rfl
 refine ⟨qbx ?_,rfl⟩
 rw [qhk f x y k (by omega) (by omega) hp.2.2,List.drop_eq_nil_of_le (by omega),List.drop_eq_nil_of_le (by omega),cmpL]
def dle:Nat→Tm→Prop
 | 0,_=>False
 | d+1,t=>∀ u,u∈t.args→dle d u
def cmpT:Nat→Tm→Tm→Int
 | 0,_,_=>0
 | d+1,a,b=>
   if orL [cmpI a.kind b.kind,cmpI a.n b.n,cmpI a.args.length b.args.length,cmpS a.name b.name]=0 then cmpL (cmpT d) a.args b.args
   else orL [cmpI a.kind b.kind,cmpI a.n b.n,cmpI a.args.length b.args.length,cmpS a.name b.name]
theorem Tm.wfs_mem {ts:List Tm}{t:Tm}(h:Tm.wfs ts)(hm:t∈ts):t.wf:=by
 obtain ⟨i,hi⟩:=List.getElem?_of_mem hm
 exact Tm.wfs_get h hi
theorem qhI:∀ (d:Nat) (a b:Tm),dle d a→a.wf→b.wf→PFm 192 [tmA false a,tmA false b] (iv (cmpT d a b))
 | 0,a,b,h,_,_=>h.elim
 | d+1,a,b,h,ha,hb=>by
   have h1:=ha.2.2.2.1
   have h2:=hb.2.2.2.1
   have hla:=qaY a.args
   have hlb:=qaY b.args
   refine qI Tryz.func192 E Tryz.ntmps192 zL fun c hL hQ hDD=>(qd (qb (qt E E zD (q6 2 E E E) E (qt E E zD (q6 3 E E E) E (zX E (zK ?_))))));refine qd (qd (qX 21 mixed E E E E (zU E (qe E qaL E) (zU E (qi E qQ E E E E E) (zU E (qe E qaL E) (zU E (qi E qQ E E E E E) (zU E (qai (avs:=[_,_]) true E qcg E E (qgg _ _) (fun _=>rfl) E) (zU E (qe E qbb E) (zU E (qi E qQ E E E E E) ?_)))))))))
   refine zU E (qe E qbb E) (zU E (qi E qQ E E E E E) (zU E (qai (avs:=[_,_]) true E qcg E E (qgg _ _) (fun _=>rfl) E) (zU E (qe E qaa E) (zU E (qi E q9 E E E E E) (zU E (qu E qN E) (zU E (qe E qaa E) (zU E (qi E q9 E E E E E) (zU E (qu E qN E) (zU E (qai (avs:=[_,_]) true E qcg E E (qgg _ _) (fun _=>rfl) E) (zU E (qe E qay E) (zU E (qi E qar E E E E E) ?_)))))))))))
   refine zU E (qe E qay E) (zU E (qi E qar E E E E E) (qaq ⟨rfl,rfl,?_⟩));refine qH (avs:=[_,_]) true E E E zD qei E E (qew _ _) E E (qt E E zD (qaj 28 E qaW qhR E E zD zD zD E E E) E (qcE 28 false 4 E E E E ?_))
   refine qH (avs:=[_]) true E E E zD qgI E E (qm6 [cmpI a.kind b.kind,cmpI a.n b.n,cmpI (tmDs a.args).length (tmDs b.args).length,cmpS a.name b.name] (by simp)) rfl rfl (zN rfl rfl rfl (zK (qd (qb (zM rfl rfl rfl (zA rfl (qj rfl rfl rfl rfl) ?_))))));refine zK (qo E (fun c0=>?_) (fun c0=>?_))
   ·simp only[↓cqA,cqB]at c0
    refine qd (qb (zX E (zX E (zK (qn (qm (zI hL (qg E qh) ?_ ?_)))))))
    ·rfl
    refine ⟨qbx ?_,rfl⟩
    rw [hla,hlb] at c0
    rw [cmpT]
    try rw [hla,hlb]
    first|rw [if_pos (by simpa using c0)]|rw [if_neg (by simpa using c0)]
   simp only[↓cqA,cqB]at c0
   refine qr (qa (qd (qb (zA E (qe E qaa E) (zA E (qi E q9 E E E E E) (zA E (qe E qaa E) (zA E (qi E q9 E E E E E) (qH (avs:=[_,_,_]) true E E E zD qcc E E (qlE a.args b.args zO zO (cmpT d) _ qeh (fun u v hu hv=>qhI d u v (h u hu) (Tm.wfs_mem ha.2.2.2.2 hu) (Tm.wfs_mem hb.2.2.2.2 hv))) E E (zX E (zK (qn (zI hL (qg E qh) ?_ ?_))))))))))))
   ·rfl
   refine ⟨qbx ?_,rfl⟩
   rw [hla,hlb] at c0
   rw [cmpT]
   try rw [hla,hlb]
   first|rw [if_pos (by simpa using c0)]|rw [if_neg (by simpa using c0)]
end Go.Proofs.YtpgceiijoedppaaGreat
namespace Go.Proofs
open Go.Shelf
def Tryz.keys241_ren:Go.Shelf.Ren:=⟨fun|7=>241|10=>283|n=>n,fun|23=>248|26=>9|3=>4|28=>252|0=>0|27=>251|33=>57|4=>4|n=>n,fun|n=>n⟩
theorem Tryz.keys241:Go.Proofs.SlLaysZ.n7 Tryz.prog Tryz.keys241_ren:={
 mixed:=by kernel_rfl
 f7:=⟨Tryz.f241.name,by decide,Tryz.func241.trans (congrArg some (by kernel_rfl))⟩
 f10:=⟨Tryz.f283.name,by decide,Tryz.func283.trans (congrArg some (by kernel_rfl))⟩
 t0:=Tryz.underlying0
 a0:=Tryz.isAgg0
 z0:=Tryz.sizeOf0
 v0:=Tryz.zeroValue0
 t4:=Tryz.underlying4
 a4:=Tryz.isAgg4
 z4:=Tryz.sizeOf4
 v4:=Tryz.zeroValue4
 t23:=Tryz.underlying248
 a23:=Tryz.isAgg248
 z23:=Tryz.sizeOf248
 v23:=Tryz.zeroValue248
 t26:=Tryz.underlying9
 a26:=Tryz.isAgg9
 z26:=Tryz.sizeOf9
 v26:=Tryz.zeroValue9
 t27:=Tryz.underlying251
 a27:=Tryz.isAgg251
 z27:=Tryz.sizeOf251
 v27:=Tryz.zeroValue251
 t28:=Tryz.underlying252
 a28:=Tryz.isAgg252
 z28:=Tryz.sizeOf252
 v28:=Tryz.zeroValue252
 t33:=Tryz.underlying57
 a33:=Tryz.isAgg57
 z33:=Tryz.sizeOf57
 v33:=Tryz.zeroValue57 }
def Tryz.sorted240_ren:Go.Shelf.Ren:=⟨fun|6=>240|8=>281|9=>282|11=>315|13=>191|12=>316|23=>252|24=>253|14=>331|15=>332|16=>333|17=>334|18=>335|19=>336|20=>337|21=>338|22=>339|25=>344|26=>285|27=>286|28=>345|29=>346|30=>347|31=>349|n=>n,fun|26=>9|28=>252|24=>84|0=>0|3=>3|37=>125|48=>263|50=>265|4=>4|40=>257|39=>256|45=>196|5=>5|9=>9|51=>295|55=>193|57=>321|58=>322|33=>57|n=>n,fun|n=>n⟩
theorem Tryz.sorted240:Go.Proofs.SlLaysZ.n6 Tryz.prog Tryz.sorted240_ren:={
 mixed:=by kernel_rfl
 f6:=⟨Tryz.f240.name,by decide,Tryz.func240.trans (congrArg some (by kernel_rfl))⟩
 f8:=⟨Tryz.f281.name,by decide,Tryz.func281.trans (congrArg some (by kernel_rfl))⟩
 f11:=⟨Tryz.f315.name,by decide,Tryz.func315.trans (congrArg some (by kernel_rfl))⟩
 t0:=Tryz.underlying0
 a0:=Tryz.isAgg0
 z0:=Tryz.sizeOf0
 v0:=Tryz.zeroValue0
 t24:=Tryz.underlying84
 a24:=Tryz.isAgg84
 z24:=Tryz.sizeOf84
 v24:=Tryz.zeroValue84
 t26:=Tryz.underlying9
 a26:=Tryz.isAgg9
 z26:=Tryz.sizeOf9
 v26:=Tryz.zeroValue9
 t28:=Tryz.underlying252
 a28:=Tryz.isAgg252
 z28:=Tryz.sizeOf252
 v28:=Tryz.zeroValue252
 i26:=by kernel_rfl }
def Tryz.sort282_ren:Go.Shelf.Ren:=⟨fun|6=>282|8=>191|9=>316|19=>252|20=>253|21=>331|22=>332|23=>333|24=>334|25=>335|26=>336|27=>337|28=>338|29=>339|36=>344|31=>285|32=>286|37=>345|38=>346|39=>347|41=>349|n=>n,fun|27=>84|29=>9|3=>3|32=>125|26=>84|0=>0|44=>263|46=>265|4=>4|36=>257|35=>256|41=>196|5=>5|9=>9|53=>295|57=>193|63=>321|64=>322|n=>n,fun|n=>n⟩
theorem Tryz.sort282:Go.Proofs.SlLaysM.n6 Tryz.prog Tryz.sort282_ren:={
 mixed:=by kernel_rfl
 f6:=⟨Tryz.f282.name,by decide,Tryz.func282.trans (congrArg some (by kernel_rfl))⟩
 f8:=Tryz.func191.trans (congrArg some (by kernel_rfl))
 f9:=⟨Tryz.f316.name,by decide,Tryz.func316.trans (congrArg some (by kernel_rfl))⟩
 f19:=Tryz.func252.trans (congrArg some (by kernel_rfl))
 f20:=Tryz.func253.trans (congrArg some (by kernel_rfl))
 f21:=⟨Tryz.f331.name,by decide,Tryz.func331.trans (congrArg some (by kernel_rfl))⟩
 f22:=⟨Tryz.f332.name,by decide,Tryz.func332.trans (congrArg some (by kernel_rfl))⟩
 f23:=⟨Tryz.f333.name,by decide,Tryz.func333.trans (congrArg some (by kernel_rfl))⟩
 f24:=⟨Tryz.f334.name,by decide,Tryz.func334.trans (congrArg some (by kernel_rfl))⟩
 f25:=⟨Tryz.f335.name,by decide,Tryz.func335.trans (congrArg some (by kernel_rfl))⟩
 f26:=⟨Tryz.f336.name,by decide,Tryz.func336.trans (congrArg some (by kernel_rfl))⟩
 f27:=⟨Tryz.f337.name,by decide,Tryz.func337.trans (congrArg some (by kernel_rfl))⟩
 f28:=⟨Tryz.f338.name,by decide,Tryz.func338.trans (congrArg some (by kernel_rfl))⟩
 f29:=⟨Tryz.f339.name,by decide,Tryz.func339.trans (congrArg some (by kernel_rfl))⟩
 f31:=Tryz.func285.trans (congrArg some (by kernel_rfl))
 f32:=Tryz.func286.trans (congrArg some (by kernel_rfl))
 f36:=⟨Tryz.f344.name,by decide,Tryz.func344.trans (congrArg some (by kernel_rfl))⟩
 f37:=⟨Tryz.f345.name,by decide,Tryz.func345.trans (congrArg some (by kernel_rfl))⟩
 f38:=⟨Tryz.f346.name,by decide,Tryz.func346.trans (congrArg some (by kernel_rfl))⟩
 f39:=⟨Tryz.f347.name,by decide,Tryz.func347.trans (congrArg some (by kernel_rfl))⟩
 f41:=⟨Tryz.f349.name,by decide,Tryz.func349.trans (congrArg some (by kernel_rfl))⟩
 t0:=Tryz.underlying0
 a0:=Tryz.isAgg0
 z0:=Tryz.sizeOf0
 v0:=Tryz.zeroValue0
 t3:=Tryz.underlying3
 a3:=Tryz.isAgg3
 z3:=Tryz.sizeOf3
 v3:=Tryz.zeroValue3
 t4:=Tryz.underlying4
 a4:=Tryz.isAgg4
 z4:=Tryz.sizeOf4
 v4:=Tryz.zeroValue4
 t5:=Tryz.underlying5
 a5:=Tryz.isAgg5
 z5:=Tryz.sizeOf5
 v5:=Tryz.zeroValue5
 t9:=Tryz.underlying9
 a9:=Tryz.isAgg9
 z9:=Tryz.sizeOf9
 v9:=Tryz.zeroValue9
 t26:=Tryz.underlying84
 a26:=Tryz.isAgg84
 z26:=Tryz.sizeOf84
 v26:=Tryz.zeroValue84
 t27:=Tryz.underlying84
 a27:=Tryz.isAgg84
 z27:=Tryz.sizeOf84
 v27:=Tryz.zeroValue84
 t29:=Tryz.underlying9
 a29:=Tryz.isAgg9
 z29:=Tryz.sizeOf9
 v29:=Tryz.zeroValue9
 t32:=Tryz.underlying125
 a32:=Tryz.isAgg125
 z32:=Tryz.sizeOf125
 v32:=Tryz.zeroValue125
 t35:=Tryz.underlying256
 a35:=Tryz.isAgg256
 z35:=Tryz.sizeOf256
 v35:=Tryz.zeroValue256
 t36:=Tryz.underlying257
 a36:=Tryz.isAgg257
 z36:=Tryz.sizeOf257
 v36:=Tryz.zeroValue257
 t41:=Tryz.underlying196
 a41:=Tryz.isAgg196
 z41:=Tryz.sizeOf196
 v41:=Tryz.zeroValue196
 t44:=Tryz.underlying263
 a44:=Tryz.isAgg263
 z44:=Tryz.sizeOf263
 v44:=Tryz.zeroValue263
 t46:=Tryz.underlying265
 a46:=Tryz.isAgg265
 z46:=Tryz.sizeOf265
 v46:=Tryz.zeroValue265
 t53:=Tryz.underlying295
 a53:=Tryz.isAgg295
 z53:=Tryz.sizeOf295
 v53:=Tryz.zeroValue295
 t57:=Tryz.underlying193
 a57:=Tryz.isAgg193
 z57:=Tryz.sizeOf193
 v57:=Tryz.zeroValue193
 t63:=Tryz.underlying321
 a63:=Tryz.isAgg321
 z63:=Tryz.sizeOf321
 v63:=Tryz.zeroValue321
 t64:=Tryz.underlying322
 a64:=Tryz.isAgg322
 z64:=Tryz.sizeOf322
 v64:=Tryz.zeroValue322 }
end Go.Proofs
namespace Go.Proofs
open Go.RowKit Go.Maps Go.Sort Go.Shelf
theorem Tryz.sorts240 (m:Nat):AnyZ.SortsIn Tryz.prog Tryz.sorted240_ren Fence.wide m:=
 ⟨fun blk off cap ss W hH hblk hsz=>callsIn_wide.2 (AnyM.slices_Sort_string Tryz.sort282 blk off cap ss W hH hblk hsz),
  fun p cap W=>callsIn_wide.2 (AnyM.slices_Sort_string_none Tryz.sort282 p cap W)⟩
end Go.Proofs