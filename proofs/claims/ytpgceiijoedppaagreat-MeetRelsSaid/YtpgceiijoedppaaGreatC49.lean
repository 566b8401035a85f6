/- Part 49 of the proof: Oh. -/
import Derived.Test.YtpgceiijoedppaaGreatC45
import Derived.Test.YtpgceiijoedppaaGreatC47
import Derived.Test.YtpgceiijoedppaaGreatC48
set_option linter.unusedVariables false
set_option linter.unusedSimpArgs false
set_option maxRecDepth 8000
namespace Go.Proofs.YtpgceiijoedppaaGreat
open Go
variable {l:List Kp}{p:Pt}
theorem qiK {α:Type}:qbt ([]:List α):=by simp [qbt]
theorem met_no (h:(qcA l&&okP p)=false):metE l p=1∧metV l p=[]:=by
 rw [metE,metV,if_neg (by rw [h];exact Bool.noConfusion),if_neg (by rw [h];exact Bool.noConfusion)];exact ⟨rfl,rfl⟩
theorem qr9 (h:(qcA l&&okP p)=true)(h2:(mAll 8 l p).2=false):metE l p=2∧metV l p=[]:=by
 rw [metE,metV,if_pos h,if_pos h,if_neg (by rw [h2];exact Bool.noConfusion),if_neg (by rw [h2];exact Bool.noConfusion)];exact ⟨rfl,rfl⟩
theorem qmI (h:(qcA l&&okP p)=true)(h2:(mAll 8 l p).2=true):metE l p=0∧metV l p=(mAll 8 l p).1:=by
 rw [metE,metV,if_pos h,if_pos h,if_pos h2,if_pos h2];exact ⟨rfl,rfl⟩
theorem wkL_w:∀ k∈wkL,k.wf:=fun k hk=>by
 simp only [wkL,List.mem_cons,List.not_mem_nil,or_false] at hk
 rcases hk with rfl|rfl
 ·exact ⟨by decide,wt_w zD,by decide,by decide⟩
 ·exact ⟨by decide,wt_w zD,by decide,by decide⟩
theorem wpT_w {s:ByteArray}(h:s.size≤1000):(⟨1,⟨3,s,0,[]⟩,0,[],[],[]⟩:Pt).wf:=⟨show i64 (1:Int) by decide,wt_w h,show i64 (0:Int) by decide,⟨qiK,trivial⟩,⟨qiK,trivial⟩,qiK,trivial⟩
theorem wpS_w:wpS.wf:=⟨by decide,⟨by decide,by decide,by decide,by decide,trivial⟩,by decide,⟨by simp [qbt,wpS],wpT_w (by decide),trivial⟩,⟨by simp [qbt,wpS],wpT_w (by decide),trivial⟩,qiK,trivial⟩
theorem wk_met:metE wkL wpS=0∧metV wkL wpS=[⟨[],1,4,[3,5]⟩]:=by
 have h:=qmI (l:=wkL) (p:=wpS) (by kernel_rfl) (by rw [wk_all])
 rw [wk_all] at h
 exact h
theorem qlH:PF 133 [] (bv true):=by
 have key:=qgx wkL wkL_w wpS wpS_w
 rw [wk_met.1,wk_met.2] at key
 refine qI Tryz.func133 E Tryz.ntmps133 zL fun c hL hQ hDD=>(qd (qb (zX E (zK (qd (qb (qH (avs:=[_]) true E E E zD qcZ E E (qiH ⟨#[97]⟩) E E (zA E (qaF E qaX E qeG E E) (qt E E zD (qat 1 E qaX E) E (qT E E E qL E E E E E E E E E (zK (qd (qb (qH (avs:=[_]) true E E E zD qcZ E E (qiH ⟨#[98]⟩) E E (zA E (qaF E qaX E qeG E E) (qt E E zD (qat 2 E qaX E) E (qT E E E qL E E E E E E E E E (zK (qd (qb (qH (avs:=[_]) true E E E zD qcZ E E (qiH ⟨#[97]⟩) E E (zA E (qaF E qd2 E qfk E E) ?_))))))))))))))))))))))
 refine zA E (qaF E qgk E qkI E E) (zA E (qaF E qdw E qkH E E) (qH (avs:=[_]) true E E E zD qcZ E E (qiH ⟨#[98]⟩) E E (zA E (qaF E qd2 E qfk E E) (zA E (qaF E qgk E qkI E E) (zA E (qaF E qdw E qkH E E) (qab (Sub.trans (qnw 13 E (u:=kpA ⟨3,⟨wtA,1,1⟩⟩) (.agg (.cons .refl (.cons .refl (.cons .refl (.cons .refl (.cons .nil (.cons .refl (.cons .refl .nil))))))))) (qnw 17 E (u:=kpA ⟨5,⟨wtB,2,4⟩⟩) (.agg (.cons .refl (.cons .refl (.cons .refl (.cons .refl (.cons .nil (.cons .refl (.cons .refl .nil)))))))))) ?_))))))
 refine zA E (qbk false E qaf qdw E E zD zD zD E E E E) (zX E (zK (qd (qb (zX E (zA E (qF E qL E E E E) (qab (qnw 21 E (u:=ptA false wpA) (.agg (.cons .refl (.cons .refl (.cons .refl (.cons .refl (.cons .nil (.cons .refl (.cons .nil (.cons .nil (.cons .nil .nil))))))))))) (zA E (qbk false E qy qaX E E zD zD zD E E E E) (zA E (qF E qL E E E E) (qab (qnw 23 E (u:=ptA false wpB) (.agg (.cons .refl (.cons .refl (.cons .refl (.cons .refl (.cons .nil (.cons .refl (.cons .nil (.cons .nil (.cons .nil .nil))))))))))) (zA E (qbk false E qy qaX E E zD zD zD E E E E) ?_)))))))))))
 refine zA E (qaF E qaX E qeG E E) (qab (qnw 25 E (u:=ptA false wpS) (.agg (.cons .refl (.cons .refl (.cons .refl (.cons .refl (.cons .nil (.cons .refl (.cons .refl (.cons .refl (.cons .nil .nil))))))))))) (qbW E E zD (qbn (avs:=[_,_]) false E qgG E E (key) (fun _=>rfl) E) E (zX E (qab (Sub.trans (qdi hQ) (qaG (l:=6) E zD (noL hL _) E E)) (zA E (qS E E E) ?_)))))
 refine zA E (qS E E E) (zX E (zX E (zK (qd (qb (zX E (qH (avs:=[_]) true E E E zD qcp E E (qiC _) E E (zA E (qj E E E E) (zX E (qE 32 E (fun g32=>?_) (fun g32=>?_)))))))))))
 ·simp only[↓cqA,cqB]at g32
  refine zZ E (ql (.inl E) E) (zZ E (qu E qw E) (zZ E (qj E E E E) (zA E (qk E E E) (zX E (qE 37 E (fun g37=>?_) (fun g37=>?_))))))
  ·simp only[↓cqA,cqB]at g37
   refine zZ E (ql (.inl E) E) (zZ E (qp E qw E E zO E) (zZ E (qJ E qae E) (zZ E (qgo E qav E E E) (zZ E (qaF E qd2 E qfk E E) (zZ E (qfd E E E) (zA E (qk E E E) (zX E (qE 45 E (fun g45=>?_) (fun g45=>?_)))))))))
   ·simp only[↓cqA,cqB]at g45
    refine zZ E (ql (.inl E) E) (zZ E (qp E qw E E zO E) (zZ E (qJ E qaV E) (zZ E (qW E qbZ E) (zZ E (qbk false E qaW qhR E E zD zD zD E E E E) (zZ E (qai (avs:=[_,_]) true E qdX E E (qjE [3,5] [3,5] zD zD) (fun _=>rfl) E) (zA E (qk E E E) (zX E (zK (qn (zI hL (qg E qh) ?_ ?_))))))))))
    ·rfl
    refine ⟨?_,rfl⟩
    first
     | exact absurd E g37
     | (exfalso;simp_all;done)
     | exact q7 E
     | trace_state
   simp only[↓cqA,cqB]at g45
   refine zY E (zY E (zY E (zY E (zY E (zY E (zA E (qk E E E) (zX E ?_)))))));refine zK (qn (zI hL (qg E qh) ?_ ?_))
   ·rfl
   refine ⟨?_,rfl⟩
   first
    | exact absurd E g37
    | (exfalso;simp_all;done)
    | exact q7 E
    | trace_state
  simp only[↓cqA,cqB]at g37
  refine zY E (zY E (zY E (zY E (zY E (zY E (zA E (qk E E E) (zX E (zY E (zY E (zY E (zY E (zY E (zY E (zA E (qk E E E) (zX E (zK (qn (zI hL (qg E qh) ?_ ?_))))))))))))))))))
  ·rfl
  refine ⟨?_,rfl⟩
  first
   | exact absurd E g37
   | (exfalso;simp_all;done)
   | exact q7 E
   | trace_state
 simp only[↓cqA,cqB]at g32
 refine zY E (zY E (zY E (zA E (qk E E E) (zX E (zY E (zY E (zY E (zY E (zY E (zY E (zA E (qk E E E) (zX E (zY E (zY E (zY E (zY E (zY E (zY E (zA E (qk E E E) (zX E (zK (qn (zI hL (qg E qh) ?_ ?_)))))))))))))))))))))))
 ·rfl
 refine ⟨?_,rfl⟩
 first
  | exact absurd E g37
  | (exfalso;simp_all;done)
  | exact q7 E
  | trace_state
theorem qq5 {p:qhQ}(hp:p.wf)(h:qjj p=false):p.L.length≤1200∧p.X.length≤1200∧(∀ x∈p.X,smP 30 x∧dlP 30 x)∧∀ b∈p.L,dle 30 b.f.t:=by
 obtain ⟨⟨hlL,hwL⟩,⟨hlX,hwX⟩,_,hlM,hwM⟩:=id hp
 have hrL:=qno p.L hlL hwL
 have hrM:=qnn p.M hlM hwM
 simp only [qjj,decide_eq_false_iff_not] at h
 have hP:∀ u,u∈p.X→0≤wP u:=fun u hu=>(qpC u (Pt.wf_mem hwX hu)).1
 obtain ⟨b1,b2⟩:=qeD wP 1200 (by omega) (wKs p.L+wMs p.M+p.X.length) p.X hP (by omega) (by simp only [n13] at h;omega)
 have hL:(p.L.length:Int)≤wKs p.L:=qbJ wK _ p.L (fun u hu=>(qdI u.f.t (hwL u hu).2.1).1)
 refine ⟨by omega,by omega,fun x hx=>?_,wKs_dle hwL zO⟩
 have h3:=b2 x hx
 have hxw:=Pt.wf_mem hwX hx
 exact ⟨qjW 30 x hxw (show wP x≤1048575 by omega),qjX 30 x hxw (show wP x≤1048575 by omega)⟩
set_option maxHeartbeats 4000000 in
theorem qro (p:qhQ)(hp:p.wf):PF 73 [.agg (lift false (a13D p))] (bv true):=by
 obtain ⟨⟨hlL,hwL⟩,⟨hlX,hwX⟩,_⟩:=id hp
 have hdL:=qc3 p.L
 have hdX:=qaQ p.X
 refine qI Tryz.func73 E Tryz.ntmps73 zL fun c hL hQ hDD=>(qd (qb (qt E E zD (q6 1 E E E) E (zX E (zK (qd ?_))))));refine qd (qb (zA E (qF E qbp E E E E) (qH (avs:=[_]) true E E E zD qgX E E (qrp p hp) E E (zK (qo E (fun c0=>?_) (fun c0=>?_))))))
 ·refine qd (qb (zX E (zK (qn (qm (zI hL (qg E qh) ?_ ?_))))))
  ·rfl
  first
  | exact ⟨rfl,rfl⟩
  | (exfalso;simp_all;done)
  | trace_state
 have hheavy:qjj p=false:=by first|assumption|simpa using c0
 obtain ⟨nL,nX,hsd,hv⟩:=qq5 hp hheavy
 refine qr (qa (qd (qd (qb (zX E (zK ?_))))));refine qv (qac (p.X.length) (fun i=>i≤p.X.length) (fun i=>⟨[(1,.ptr 1 0),(3,iv (i:Int))],[(1,.box (lift false (a13D p)))]⟩) zO ?_ (fun i hi hpi=>?_))
 ·exact zR hL (zC E (zC E SubT.nil)) (SubO.cons (qU E (by rfl)) SubO.nil)
 refine qd (qd (qb (zX E (zA E (qe E q8 E) (zA E (qi E qB E E E E E) (zA E (qu E qy E) (zA E (qj E E E E) ?_)))))));refine zX E (qE 23 E (fun g23=>?_) (fun g23=>?_))
 ·simp only[↓cqA,cqB]at g23
  obtain ⟨x,hx⟩:=qM (l:=p.X) (k:=i) (by omega)
  have hxm:=List.mem_of_getElem? hx
  have hxw:=Pt.wf_mem hwX hxm
  obtain ⟨hxs,hxd⟩:=hsd x hxm
  obtain ⟨hVl,hVm⟩:=qsa hwL hxw
  have hVw:∀ m∈metV p.L x,m.wf:=fun m hm=>(hVm m hm).wf (by decide)
  have hVd:∀ m∈metV p.L x,∀ y∈m.b,dle 5 y.t:=fun m hm=>(hVm m hm).dle
  have hFl:((metV p.L x).filter (newM p.N)).length≤(metV p.L x).length:=List.length_filter_le _ _
  have key1:=qjF (metV p.L x) (metV p.L x) hVd hVw hVw (by omega) (by omega)
  rw [(qiR hVd).2 rfl] at key1
  have hFd:∀ m∈(metV p.L x).filter (newM p.N),∀ y∈m.b,dle 5 y.t:=fun m hm=>hVd m (List.mem_filter.1 hm).1
  have hFw:∀ m∈(metV p.L x).filter (newM p.N),m.wf:=fun m hm=>hVw m (List.mem_filter.1 hm).1
  have key2:=qjF ((metV p.L x).filter (newM p.N)) ((metV p.L x).filter (newM p.N)) hFd hFw hFw (by omega) (by omega)
  rw [(qiR hFd).2 rfl] at key2
  have hsp:∀ m∈metV p.L x,mdl 5 1000000 m:=fun m hm=>⟨fun b hb=>dlb_of 5 _ (qbN ((hVm m hm).gg.gb.el b hb).2.2) ((hVm m hm).gg.gb.el b hb).1.2,by have:=(hVm m hm).gg.gb.len;omega,by have:=(hVm m hm).ul;omega⟩
  refine zZ E (ql (.inl E) E) (zZ E (qj E E E E) (zA E (qk E E E) (zK (qo E (fun c1=>?_) (fun c1=>?_)))))
  ·simp only[↓cqA,cqB]at c1
   refine qr (qa (qd (qv (qd (qX 10 mixed E E E E (zU E (qe E qaI E) (zU E (qi E qbq E E E E E) ?_)))))));refine qgO E E zD (qbn (avs:=[_]) false E qfN E E (qc0 3 86 (qni 30 p.L zO hv hwL)) (fun _=>rfl) E) (zU E (qe E q8 E) (zU E (qi E qB E E E E E) (zU E (ql (.inl E) E) (zU E (qp E qy E E zO (qba hx)) (zU E (qD E qL E E) ?_)))))
   refine zU E (qai (avs:=[_]) false E qdE E E (qh1 30 x hxw hxs) (fun _=>rfl) E) (qhr E zD (.run E (qat 5 E qaX E)) (qaq ⟨rfl,rfl,?_⟩));refine zX E (qT E E E qL E E E E E E E E E (zK (qdr ⟨[(1,.ptr 1 0),(3,iv (i:Int)),(4,.dat false 7 (kpDs p.L)),(5,.ptr 5 0),(6,bv (qcA p.L&&okP x))],[(1,.box (lift false (a13D p))),(5,.box (lift false (ptD x)))]⟩ ?_ ?_)))
   ·refine qbI (qaG (l:=86) E zD (noL hL _) E E) (qb (zA E (qe E qaI E) (zA E (qi E qbq E E E E E) (qH (avs:=[_]) true E E E zD qhg E E (qrS p.L zO hwL) E E (zX E (qE 41 E (fun g41=>?_) (fun g41=>?_)))))))
    ·refine zZ E (qe E q8 E) (zZ E (qi E qB E E E E E) (zZ E (ql (.inl E) E) (zZ E (qp E qy E E zO (qba hx)) (zZ E (qD E qL E E) (zZ E (qai (avs:=[_]) true E qel E E (qkA 30 x hxw hxd) (fun _=>rfl) E) (zA E (qk E E E) (zX E (qc ?_))))))))
     exact qaC (qC (zC E (zC E (zC E (zC E (SubT.cons (qaw E (by exact qbs (by first|rfl|(simp_all;done)))) SubT.nil))))) (SubO.cons (qU E (by rfl)) (SubO.cons (qU E (by rfl)) SubO.nil)) E E (noL' (noL hL) _))
    refine zY E (zY E (zY E (zY E (zY E (zY E (zA E (qk E E E) (zX E ?_)))))));refine qc ?_
    exact qaC (qC (zC E (zC E (zC E (zC E (SubT.cons (qaw E (by exact qbs (by first|rfl|(simp_all;done)))) SubT.nil))))) (SubO.cons (qU E (by rfl)) (SubO.cons (qU E (by rfl)) SubO.nil)) E E (noL' (noL hL) _))
   refine qd (qd ?_)
   rcases Bool.eq_false_or_eq_true ((qcA p.L&&okP x)) with l49|l49
   ·have m49:=l49
    refine qX 10 mixed E E E E (zU E (ql (v:=.imm (.bool true)) (.inl E) (congrArg (fun b=>some (AV.imm (Value.bool b))) l49)) (zU E (ql (.inl E) E) (zQ E (qe E q8 E) (zQ E (qi E qB E E E E E) (zQ E (ql (.inl E) E) (zQ E (qp E qy E E zO (qba hx)) (zQ E (qD E qL E E) (zQ E (qe E qaI E) (zQ E (qi E qbq E E E E E) (zQ E (qu E qaf E) ?_))))))))))
    refine qaq ⟨rfl,rfl,?_⟩;refine zZ E (qai (avs:=[_,_]) true E qgW E E (Light_ok 30 x hxw hxd (kpDs p.L).length zO zO) (fun _=>rfl) E) (zZ E (qaB E E) (zA E (qk E E E) (zK (qo E (fun c2=>?_) (fun c2=>?_)))))
    ·simp only[↓cqA,cqB]at c2
     refine qV (qq (qad ?_));refine qa (qb (zX E (zA E (qO E E E zO) (zX E (zK ?_)))));refine ⟨?_,?_,?_⟩
     ·omega
     ·omega
     exact zR hL (zC E (zC E SubT.nil)) (SubO.cons (qU E (by rfl)) SubO.nil)
    simp only[↓cqA,cqB]at c2
    refine qr (qa (qd (qb (zX E (zA E (qF E qL E E E E) (qbW E E zD (qbn (avs:=[_,_]) false E qgG E E (qc0 6 87 (qgx p.L hwL x hxw)) (fun _=>rfl) E) E (zX E (qab (qaG (l:=87) E zD (noL hL _) E E) (zA E (qS E E E) ?_)))))))))
    refine zA E (qS E E E) (zX E (zX E (zK (qd (qb (zX E ?_))))));refine zA E (qF E qL E E E E) (zA E (qe E qcI E) (zA E (qi E qQ E E E E E) (qH (avs:=[_,_,_]) false E E E zD qjB E E (qkN p.L hwL x hxw p.N) E E (zX E (zA E (qS E E E) (zA E (qS E E E) ?_))))))
    refine zX E (zX E (zK (qd (qb (zX E (qc ?_))))));refine qa (qd (qb (zX E (zX E (zK (qdr ⟨[(1,.ptr 1 0),(3,iv (i:Int)),(4,.dat false 7 (kpDs p.L)),(5,.ptr 5 0),(7,.dat true 4 (mtDs (metV p.L x))),(8,iv (metE p.L x)),(9,.dat false 4 (mtDs ((metV p.L x).filter (newM p.N)))),(10,iv (metE p.L x)),(11,iv (metE p.L x)),(12,.dat false 4 (mtDs (metV p.L x))),(13,.dat false 4 (mtDs ((metV p.L x).filter (newM p.N))))],[(1,.box (lift false (a13D p))),(5,.box (lift false (ptD x)))]⟩ ?_ ?_))))))
    ·refine qd (qbI (Sub.trans (qdx (t:=12) 4 false E) (qdx (t:=13) 4 false E)) (qb (zX E (zK (qo E (fun c3=>?_) (fun c3=>?_))))))
     ·have hm:(qcA p.L&&okP x)=true:=by first|assumption|simpa using c3
      have hl:qhK p.L:=qhd (Bool.and_eq_true _ _▸hm).1
      have hok:okP x=true:=(Bool.and_eq_true _ _▸hm).2
      have hpat:=((qh9 x).1 hok).1
      refine qd (qb (zX E (zK (qd (qX 12 mixed E E E E (zU E (qe E qaI E) ?_))))));refine zU E (qi E qbq E E E E E) (zU E (qe E q8 E) (zU E (qi E qB E E E E E) (zU E (ql (.inl E) E) (zU E (qp E qy E E zO (qba hx)) (zU E (qD E qL E E) (qgO E E zD (qbn (avs:=[_,_]) false E qb1 E E (qc0 6 88 (qmD hl hwL 8 zO x hxw hpat)) (fun _=>rfl) E) (zU E (ql (.inl E) E) (zU E (qS E E E) ?_))))))))
      refine zU E (qS E E E) (zU E (ql (.inr E) E) (qaq ⟨rfl,rfl,?_⟩));refine zX E (zK (qd (qbI (qaG (l:=88) E zD (noL hL _) E E) (qb (zX E (qc ?_))))));refine qa (qo E (fun c4=>?_) (fun c4=>?_))
      ·obtain ⟨hE,hV⟩:=qmI hm (by first|assumption|simpa using c4)
       refine qd (qb (zX E (zX E (zX E (zK ?_)))))
       refine qbI (qC (T1:=[(1,.ptr 1 0),(3,iv (i:Int)),(4,.dat false 7 (kpDs p.L)),(5,.ptr 5 0),(7,.dat true 4 (mtDs (metV p.L x))),(8,iv (metE p.L x)),(9,.dat false 4 (mtDs ((metV p.L x).filter (newM p.N)))),(10,iv (metE p.L x)),(11,iv 0),(12,.dat false 4 (mtDs (mAll 8 p.L x).1))]) (O1:=[(1,.box (lift false (a13D p))),(5,.box (lift false (ptD x)))]) (zB E (zB E (zB E (zB E (zB E (zB E (zB E (zB E (zB E (zB E SubT.nil)))))))))) (SubO.cons E (SubO.cons E SubO.nil)) E E (noL' (noL hL) _)) ?_
       refine qX 14 mixed E E E E (zU E (qe E qaI E) (zU E (qi E qbq E E E E E) (zU E (qe E q8 E) (zU E (qi E qB E E E E E) (zU E (ql (.inl E) E) (zU E (qp E qy E E zO (qba hx)) (zU E (qD E qL E E) (zU E (qe E qcI E) (zU E (qi E qQ E E E E E) ?_)))))))))
       refine zU E (qai (avs:=[_,_,_]) false E qeR E E (qpU hl hwL x hxw hpat p.N) (fun _=>rfl) E) (zU E (ql (.inl E) E) (zU E (qS E E E) (zU E (qS E E E) (zU E (ql (.inr E) E) (qaq ⟨rfl,rfl,?_⟩)))));refine qc ?_
       exact qaC (qC (zC E (zC E (zC E (zC E (zC E (zC E (zC E (zC E (SubT.cons (qaw E (by first|rfl|(rw [hE];done)|(rw [hE];rfl))) (SubT.cons (qaw E (by first|rfl|(rw [hV];done)|(rw [hV];rfl))) (SubT.cons (qaw E (by first|rfl|(rw [hV];done)|(rw [hV];rfl))) SubT.nil))))))))))) (SubO.cons (qU E (by rfl)) (SubO.cons (qU E (by rfl)) SubO.nil)) E E (noL' (noL hL) _))
      obtain ⟨hE,hV⟩:=qr9 hm (by first|assumption|simpa using c4)
      refine qr ?_
      exact qaC (qC (zC E (zC E (zC E (zC E (zC E (zC E (zC E (zC E (SubT.cons (qaw E (by first|rfl|(rw [hE];done)|(rw [hE];rfl))) (SubT.cons (qaw E (by first|rfl|(rw [hV];done)|(rw [hV];rfl))) (SubT.cons (qaw E (by first|rfl|(rw [hV];done)|(rw [hV];rfl))) SubT.nil))))))))))) (SubO.cons (qU E (by rfl)) (SubO.cons (qU E (by rfl)) SubO.nil)) E E (noL' (noL hL) _))
     obtain ⟨hE,hV⟩:=met_no (l:=p.L) (p:=x) (by first|assumption|simpa using c3)
     refine qr ?_
     exact qaC (qC (zC E (zC E (zC E (zC E (zC E (zC E (zC E (zC E (SubT.cons (qaw E (by first|rfl|(rw [hE];done)|(rw [hE];rfl))) (SubT.cons (qaw E (by first|rfl|(rw [hV];done)|(rw [hV];rfl))) (SubT.cons (qaw E (by first|rfl|(rw [hV];done)|(rw [hV];rfl))) SubT.nil))))))))))) (SubO.cons (qU E (by rfl)) (SubO.cons (qU E (by rfl)) SubO.nil)) E E (noL' (noL hL) _))
    refine qd (qd ?_)
    rcases Bool.eq_false_or_eq_true ((metE p.L x != metE p.L x)) with l106|l106
    ·have m106:=l106
     simp only[↓cqA,cqB]at m106
     first|(simp at l106;done)|exact absurd E m106|cases l106
    have m106:=l106
    simp only[↓cqA,cqB]at m106
    rcases Bool.eq_false_or_eq_true ((metE p.L x != metE p.L x)) with l111|l111
    ·have m111:=l111
     simp only[↓cqA,cqB]at m111
     first|(simp at l111;done)|exact absurd E m111|cases l111
    have m111:=l111
    simp only[↓cqA,cqB]at m111
    rcases Bool.eq_false_or_eq_true ((!true)) with l117|l117
    ·have m117:=l117
     simp only[↓cqA,cqB]at m117
     first|(simp at l117;done)|exact absurd E m117|cases l117
    have m117:=l117
    simp only[↓cqA,cqB]at m117
    rcases Bool.eq_false_or_eq_true ((!true)) with l123|l123
    ·have m123:=l123
     simp only[↓cqA,cqB]at m123
     first|(simp at l123;done)|exact absurd E m123|cases l123
    have m123:=l123
    simp only[↓cqA,cqB]at m123
    rcases Bool.eq_false_or_eq_true ((!true)) with l130|l130
    ·have m130:=l130
     simp only[↓cqA,cqB]at m130
     first|(simp at l130;done)|exact absurd E m130|cases l130
    have m130:=l130
    simp only[↓cqA,cqB]at m130
    refine qX 36 mixed E E E E (zU E (ql (.inl E) E) (zU E (qai (avs:=[_]) true E qcp E E (qiC _) (fun _=>rfl) E) (zU E (ql (.inl E) E) (zU E (qj (r:=.bool false) E E E (congrArg (fun b=>some (Value.bool b)) l106)) (zU E (ql (.inl E) E) (zQ E (ql (.inl E) E) (zQ E (qai (avs:=[_]) true E qcp E E (qiC _) (fun _=>rfl) E) (zQ E (ql (.inl E) E) ?_))))))))
    refine zQ E (qj (r:=.bool false) E E E (congrArg (fun b=>some (Value.bool b)) l111)) (zU E (qk E E E) (zU E (ql (.inl E) E) (zQ E (ql (.inl E) E) (zQ E (ql (.inl E) E) (zQ E (qai (avs:=[_,_]) true E qb9 E E (key1) (fun _=>rfl) E) (zQ E (qaB E E) ?_))))))
    refine zU E (qk E E E) (zU E (ql (.inl E) E) (zQ E (ql (.inl E) E) (zQ E (ql (.inl E) E) (zQ E (qai (avs:=[_,_]) true E qb9 E E (key2) (fun _=>rfl) E) (zQ E (qaB E E) (zU E (qk E E E) (zU E (ql (.inl E) E) (zQ E (ql (.inl E) E) ?_))))))))
    refine zQ E (qe E qaI E) (zQ E (qi E qbq E E E E E) (zQ E (qai (avs:=[_,_]) true E qcu E E (qeJ 30 p.L hv hwL zO) (fun _=>rfl) E) (zQ E (qaB E E) (zU E (qk E E E) (zU E (ql (.inl E) E) (zQ E (qF E qL E E E E) (zQ E (qe E q8 E) (zQ E (qi E qB E E E E E) (zQ E (ql (.inl E) E) ?_)))))))))
    refine zQ E (qp E qy E E zO (qba hx)) (zQ E (qD E qL E E) ?_)
    refine qaq ⟨rfl,rfl,?_⟩;refine zZ E (qai (avs:=[_,_]) true E qc4 E E (qhs 30 x hxw hxd) (fun _=>rfl) E) (zZ E (qaB E E) (zA E (qk E E E) (zK (qo E (fun c5=>?_) (fun c5=>?_)))))
    ·simp only[↓cqA,cqB]at c5
     refine qd (qb (zX E (zK (qn (qm (qP (qm (qm (qP (qm (zI hL (qg E qh) ?_ ?_)))))))))))
     ·rfl
     first
     | exact ⟨rfl,rfl⟩
     | (exfalso;simp_all;done)
     | trace_state
    simp only[↓cqA,cqB]at c5
    refine qr (qa (qd (qb (zX E (qab (qC (T1:=[(142,.dat true 4 (mtDs (metV p.L x))),(1,.ptr 1 0),(3,iv (i:Int)),(4,.dat false 7 (kpDs p.L))]) (O1:=[(1,.box (lift false (a13D p)))]) (zB E (zB E (zB E (zB E SubT.nil)))) (SubO.cons E SubO.nil) E E (noL' (noL hL) _)) ?_)))))
    refine qff E E E zD qem E E E E (qg4 _ hsp zO) (fun b hb=>absurd hb (hQ b)) (fun T' O' hT hO=>?_)
    simp only [ShT,ShV] at hT
    obtain ⟨_,_,rfl,_,_,_,rfl,rfl,_,_,rfl,rfl,_,_,rfl,⟨e4,rfl,h4⟩,rfl⟩:=hT
    obtain rfl:e4=_:=by simpa using h4
    have hO2:=qrM hO
    subst hO2
    refine zK (qd (qb (zX E (zA E (qe E qaI E) (zA E (qi E qbq E E E E E) (qH (avs:=[_,_]) true E E E zD qcu E E (qeJ 30 p.L hv hwL zO) E E (zA E (qaB E E) (zK (qo E (fun c6=>?_) (fun c6=>?_))))))))))
    ·simp only[↓cqA,cqB]at c6
     refine qd (qb (zX E (zK (qn (qP (qm (qm (qP (qm (zI hL (qg E qh) ?_ ?_))))))))))
     ·rfl
     first
     | exact ⟨rfl,rfl⟩
     | (exfalso;simp_all;done)
     | trace_state
    simp only[↓cqA,cqB]at c6
    refine qr (qR (qa (qb (zX E (zA E (qO E E E zO) (zX E (qc ?_)))))));refine qa ?_;refine ⟨?_,?_,?_⟩
    ·omega
    ·omega
    exact zR hL (zC E (zC E SubT.nil)) (SubO.cons (qU E (by rfl)) SubO.nil)
   have m49:=l49
   refine qX 10 mixed E E E E (zU E (ql (v:=.imm (.bool false)) (.inl E) (congrArg (fun b=>some (AV.imm (Value.bool b))) l49)) (zU E (ql (.inl E) E) (qf E zD (.skip rfl E E zD zD) (qf E zD (.skip rfl E E zD zD) (qf E zD (.skip rfl E E zD zD) (qf E zD (.skip rfl E E zD zD) (qf E zD (.skip rfl E E zD zD) (qf E zD (.skip rfl E E zD zD) ?_))))))))
   refine qf E zD (.skip rfl E E zD zD) (qf E zD (.skip rfl E E zD zD) (qaq ⟨rfl,rfl,?_⟩));refine zY E (zY E (zA E (qk E E E) ?_))
   refine zK (qaA E (qr (qa (qd (qb (zX E ?_))))));refine zA E (qF E qL E E E E) (qbW E E zD (qbn (avs:=[_,_]) false E qgG E E (qc0 6 87 (qgx p.L hwL x hxw)) (fun _=>rfl) E) E (zX E (qab (qaG (l:=87) E zD (noL hL _) E E) (zA E (qS E E E) ?_))))
   refine zA E (qS E E E) (zX E (zX E (zK (qd (qb (zX E ?_))))));refine zA E (qF E qL E E E E) (zA E (qe E qcI E) (zA E (qi E qQ E E E E E) (qH (avs:=[_,_,_]) false E E E zD qjB E E (qkN p.L hwL x hxw p.N) E E (zX E (zA E (qS E E E) (zA E (qS E E E) ?_))))))
   refine zX E (zX E (zK (qd (qb (zX E (qc ?_))))));refine qa (qd (qb (zX E (zX E (zK (qdr ⟨[(1,.ptr 1 0),(3,iv (i:Int)),(4,.dat false 7 (kpDs p.L)),(5,.ptr 5 0),(7,.dat true 4 (mtDs (metV p.L x))),(8,iv (metE p.L x)),(9,.dat false 4 (mtDs ((metV p.L x).filter (newM p.N)))),(10,iv (metE p.L x)),(11,iv (metE p.L x)),(12,.dat false 4 (mtDs (metV p.L x))),(13,.dat false 4 (mtDs ((metV p.L x).filter (newM p.N))))],[(1,.box (lift false (a13D p))),(5,.box (lift false (ptD x)))]⟩ ?_ ?_))))))
   ·refine qd (qbI (Sub.trans (qdx (t:=12) 4 false E) (qdx (t:=13) 4 false E)) (qb (zX E (zK (qo E (fun c3=>?_) (fun c3=>?_))))))
    ·have hm:(qcA p.L&&okP x)=true:=by first|assumption|simpa using c3
     have hl:qhK p.L:=qhd (Bool.and_eq_true _ _▸hm).1
     have hok:okP x=true:=(Bool.and_eq_true _ _▸hm).2
     have hpat:=((qh9 x).1 hok).1
     refine qd (qb (zX E (zK (qd (qX 12 mixed E E E E (zU E (qe E qaI E) ?_))))));refine zU E (qi E qbq E E E E E) (zU E (qe E q8 E) (zU E (qi E qB E E E E E) (zU E (ql (.inl E) E) (zU E (qp E qy E E zO (qba hx)) (zU E (qD E qL E E) (qgO E E zD (qbn (avs:=[_,_]) false E qb1 E E (qc0 6 88 (qmD hl hwL 8 zO x hxw hpat)) (fun _=>rfl) E) (zU E (ql (.inl E) E) (zU E (qS E E E) ?_))))))))
     refine zU E (qS E E E) (zU E (ql (.inr E) E) (qaq ⟨rfl,rfl,?_⟩));refine zX E (zK (qd (qbI (qaG (l:=88) E zD (noL hL _) E E) (qb (zX E (qc ?_))))));refine qa (qo E (fun c4=>?_) (fun c4=>?_))
     ·obtain ⟨hE,hV⟩:=qmI hm (by first|assumption|simpa using c4)
      refine qd (qb (zX E (zX E (zX E (zK ?_)))))
      refine qbI (qC (T1:=[(1,.ptr 1 0),(3,iv (i:Int)),(4,.dat false 7 (kpDs p.L)),(5,.ptr 5 0),(7,.dat true 4 (mtDs (metV p.L x))),(8,iv (metE p.L x)),(9,.dat false 4 (mtDs ((metV p.L x).filter (newM p.N)))),(10,iv (metE p.L x)),(11,iv 0),(12,.dat false 4 (mtDs (mAll 8 p.L x).1))]) (O1:=[(1,.box (lift false (a13D p))),(5,.box (lift false (ptD x)))]) (zB E (zB E (zB E (zB E (zB E (zB E (zB E (zB E (zB E (zB E SubT.nil)))))))))) (SubO.cons E (SubO.cons E SubO.nil)) E E (noL' (noL hL) _)) ?_
      refine qX 14 mixed E E E E (zU E (qe E qaI E) (zU E (qi E qbq E E E E E) (zU E (qe E q8 E) (zU E (qi E qB E E E E E) (zU E (ql (.inl E) E) (zU E (qp E qy E E zO (qba hx)) (zU E (qD E qL E E) (zU E (qe E qcI E) (zU E (qi E qQ E E E E E) ?_)))))))))
      refine zU E (qai (avs:=[_,_,_]) false E qeR E E (qpU hl hwL x hxw hpat p.N) (fun _=>rfl) E) (zU E (ql (.inl E) E) (zU E (qS E E E) (zU E (qS E E E) (zU E (ql (.inr E) E) (qaq ⟨rfl,rfl,?_⟩)))));refine qc ?_
      exact qaC (qC (zC E (zC E (zC E (zC E (zC E (zC E (zC E (zC E (SubT.cons (qaw E (by first|rfl|(rw [hE];done)|(rw [hE];rfl))) (SubT.cons (qaw E (by first|rfl|(rw [hV];done)|(rw [hV];rfl))) (SubT.cons (qaw E (by first|rfl|(rw [hV];done)|(rw [hV];rfl))) SubT.nil))))))))))) (SubO.cons (qU E (by rfl)) (SubO.cons (qU E (by rfl)) SubO.nil)) E E (noL' (noL hL) _))
     obtain ⟨hE,hV⟩:=qr9 hm (by first|assumption|simpa using c4)
     refine qr ?_
     exact qaC (qC (zC E (zC E (zC E (zC E (zC E (zC E (zC E (zC E (SubT.cons (qaw E (by first|rfl|(rw [hE];done)|(rw [hE];rfl))) (SubT.cons (qaw E (by first|rfl|(rw [hV];done)|(rw [hV];rfl))) (SubT.cons (qaw E (by first|rfl|(rw [hV];done)|(rw [hV];rfl))) SubT.nil))))))))))) (SubO.cons (qU E (by rfl)) (SubO.cons (qU E (by rfl)) SubO.nil)) E E (noL' (noL hL) _))
    obtain ⟨hE,hV⟩:=met_no (l:=p.L) (p:=x) (by first|assumption|simpa using c3)
    refine qr ?_
    exact qaC (qC (zC E (zC E (zC E (zC E (zC E (zC E (zC E (zC E (SubT.cons (qaw E (by first|rfl|(rw [hE];done)|(rw [hE];rfl))) (SubT.cons (qaw E (by first|rfl|(rw [hV];done)|(rw [hV];rfl))) (SubT.cons (qaw E (by first|rfl|(rw [hV];done)|(rw [hV];rfl))) SubT.nil))))))))))) (SubO.cons (qU E (by rfl)) (SubO.cons (qU E (by rfl)) SubO.nil)) E E (noL' (noL hL) _))
   refine qd (qd ?_)
   rcases Bool.eq_false_or_eq_true ((metE p.L x != metE p.L x)) with l106|l106
   ·have m106:=l106
    simp only[↓cqA,cqB]at m106
    first|(simp at l106;done)|exact absurd E m106|cases l106
   have m106:=l106
   simp only[↓cqA,cqB]at m106
   rcases Bool.eq_false_or_eq_true ((metE p.L x != metE p.L x)) with l111|l111
   ·have m111:=l111
    simp only[↓cqA,cqB]at m111
    first|(simp at l111;done)|exact absurd E m111|cases l111
   have m111:=l111
   simp only[↓cqA,cqB]at m111
   rcases Bool.eq_false_or_eq_true ((!true)) with l117|l117
   ·have m117:=l117
    simp only[↓cqA,cqB]at m117
    first|(simp at l117;done)|exact absurd E m117|cases l117
   have m117:=l117
   simp only[↓cqA,cqB]at m117
   rcases Bool.eq_false_or_eq_true ((!true)) with l123|l123
   ·have m123:=l123
    simp only[↓cqA,cqB]at m123
    first|(simp at l123;done)|exact absurd E m123|cases l123
   have m123:=l123
   simp only[↓cqA,cqB]at m123
   rcases Bool.eq_false_or_eq_true ((!true)) with l130|l130
   ·have m130:=l130
    simp only[↓cqA,cqB]at m130
    first|(simp at l130;done)|exact absurd E m130|cases l130
   have m130:=l130
   simp only[↓cqA,cqB]at m130
   refine qX 36 mixed E E E E (zU E (ql (.inl E) E) (zU E (qai (avs:=[_]) true E qcp E E (qiC _) (fun _=>rfl) E) (zU E (ql (.inl E) E) (zU E (qj (r:=.bool false) E E E (congrArg (fun b=>some (Value.bool b)) l106)) (zU E (ql (.inl E) E) (zQ E (ql (.inl E) E) (zQ E (qai (avs:=[_]) true E qcp E E (qiC _) (fun _=>rfl) E) (zQ E (ql (.inl E) E) ?_))))))))
   refine zQ E (qj (r:=.bool false) E E E (congrArg (fun b=>some (Value.bool b)) l111)) (zU E (qk E E E) (zU E (ql (.inl E) E) (zQ E (ql (.inl E) E) (zQ E (ql (.inl E) E) (zQ E (qai (avs:=[_,_]) true E qb9 E E (key1) (fun _=>rfl) E) (zQ E (qaB E E) ?_))))))
   refine zU E (qk E E E) (zU E (ql (.inl E) E) (zQ E (ql (.inl E) E) (zQ E (ql (.inl E) E) (zQ E (qai (avs:=[_,_]) true E qb9 E E (key2) (fun _=>rfl) E) (zQ E (qaB E E) (zU E (qk E E E) (zU E (ql (.inl E) E) (zQ E (ql (.inl E) E) (zQ E (qe E qaI E) ?_)))))))))
   refine zQ E (qi E qbq E E E E E) (zQ E (qai (avs:=[_,_]) true E qcu E E (qeJ 30 p.L hv hwL zO) (fun _=>rfl) E) (zQ E (qaB E E) (zU E (qk E E E) (zU E (ql (.inl E) E) (zQ E (qF E qL E E E E) (zQ E (qe E q8 E) (zQ E (qi E qB E E E E E) (zQ E (ql (.inl E) E) (zQ E (qp E qy E E zO (qba hx)) ?_)))))))))
   refine zQ E (qD E qL E E) (qaq ⟨rfl,rfl,?_⟩);refine zZ E (qai (avs:=[_,_]) true E qc4 E E (qhs 30 x hxw hxd) (fun _=>rfl) E) (zZ E (qaB E E) (zA E (qk E E E) (zK (qo E (fun c5=>?_) (fun c5=>?_)))))
   ·simp only[↓cqA,cqB]at c5
    refine qd (qb (zX E (zK (qn (qm (qP (qm (qm (qP (qm (zI hL (qg E qh) ?_ ?_)))))))))))
    ·rfl
    first
    | exact ⟨rfl,rfl⟩
    | (exfalso;simp_all;done)
    | trace_state
   simp only[↓cqA,cqB]at c5
   refine qr (qa (qd (qb (zX E (qab (qC (T1:=[(142,.dat true 4 (mtDs (metV p.L x))),(1,.ptr 1 0),(3,iv (i:Int)),(4,.dat false 7 (kpDs p.L))]) (O1:=[(1,.box (lift false (a13D p)))]) (zB E (zB E (zB E (zB E SubT.nil)))) (SubO.cons E SubO.nil) E E (noL' (noL hL) _)) ?_)))))
   refine qff E E E zD qem E E E E (qg4 _ hsp zO) (fun b hb=>absurd hb (hQ b)) (fun T' O' hT hO=>?_)
   simp only [ShT,ShV] at hT
   obtain ⟨_,_,rfl,_,_,_,rfl,rfl,_,_,rfl,rfl,_,_,rfl,⟨e4,rfl,h4⟩,rfl⟩:=hT
   obtain rfl:e4=_:=by simpa using h4
   have hO2:=qrM hO
   subst hO2
   refine zK (qd (qb (zX E (zA E (qe E qaI E) (zA E (qi E qbq E E E E E) (qH (avs:=[_,_]) true E E E zD qcu E E (qeJ 30 p.L hv hwL zO) E E (zA E (qaB E E) (zK (qo E (fun c6=>?_) (fun c6=>?_))))))))))
   ·simp only[↓cqA,cqB]at c6
    refine qd (qb (zX E (zK (qn (qP (qm (qm (qP (qm (zI hL (qg E qh) ?_ ?_))))))))))
    ·rfl
    first
    | exact ⟨rfl,rfl⟩
    | (exfalso;simp_all;done)
    | trace_state
   simp only[↓cqA,cqB]at c6
   refine qr (qR (qa (qb (zX E (zA E (qO E E E zO) (zX E (qc ?_)))))));refine qa ?_;refine ⟨?_,?_,?_⟩
   ·omega
   ·omega
   exact zR hL (zC E (zC E SubT.nil)) (SubO.cons (qU E (by rfl)) SubO.nil)
  simp only[↓cqA,cqB]at c1
  refine qV (qq (qq (qad ?_)));refine qa (qd (qb (qH (avs:=[]) true E E E zD qes E E qlH E E (zX E (zK (qn (zI hL (qg E qh) ?_ ?_)))))))
  ·rfl
  first
  | exact ⟨rfl,rfl⟩
  | (exfalso;simp_all;done)
  | trace_state
 simp only[↓cqA,cqB]at g23
 refine zY E (zY E (zA E (qk E E E) (zK (qaA E (qV (qq (qq (qad ?_))))))));refine qa (qd (qb (qH (avs:=[]) true E E E zD qes E E qlH E E (zX E (zK (qn (zI hL (qg E qh) ?_ ?_)))))))
 ·rfl
 first
 | exact ⟨rfl,rfl⟩
 | (exfalso;simp_all;done)
 | trace_state
end Go.Proofs.YtpgceiijoedppaaGreat