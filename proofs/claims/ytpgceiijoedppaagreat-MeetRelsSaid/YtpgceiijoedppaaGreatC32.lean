/- Part 32 of the proof: Ha, In, Jd. -/
import Derived.Test.YtpgceiijoedppaaGreatC25
import Derived.Test.YtpgceiijoedppaaGreatC28
set_option linter.unusedVariables false
set_option linter.unusedSimpArgs false
set_option maxRecDepth 8000
namespace Go.Proofs.YtpgceiijoedppaaGreat
open Go
variable {O':List (Nat×Ob)}{l:Nat}{t:Tm}{v:Value}
theorem qkp {k:IntKind}{a:Int}(h:SpV (.int k a) v):∃ b,v=.int k b:=by
 rcases h with rfl|⟨_,_,_,h,rfl⟩|⟨_,_,h,_⟩|⟨_,_,_,h,_⟩
 ·exact ⟨a,rfl⟩
 ·cases h;exact ⟨_,rfl⟩
 ·cases h
 ·cases h
theorem qrJ {a:ByteArray}(h:SpV (.string a) v):∃ b,v=.string b:=by
 rcases h with rfl|⟨_,_,_,h,_⟩|⟨_,_,h,rfl⟩|⟨_,_,_,h,_⟩
 ·exact ⟨a,rfl⟩
 ·cases h
 ·cases h;exact ⟨_,rfl⟩
 ·cases h
def dlb:Nat→Tm→Prop
 | 0,_=>False
 | d+1,t=>t.args.length≤140737488351232∧∀ u,u∈t.args→dlb d u
theorem dlb_of:∀ (d:Nat) (t:Tm),dle d t→t.wf→dlb d t
 | 0,t,h,_=>h
 | d+1,t,h,hw=>⟨by have:=hw.2.2.2.1;omega,fun u hu=>dlb_of d u (h u hu) (Tm.wfs_mem hw.2.2.2.2 hu)⟩
mutual
theorem shTm:∀ (t:Tm) (ds':List D),ShCs (tmD0 t) ds'→∃ t',ds'=tmD t'∧∀ d,dlb d t→dlb d t'
 | ⟨k,nm,n,xs⟩,ds',h=>by
   simp only [tmD0,ShCs,ShD] at h
   obtain ⟨_,_,rfl,⟨v1,rfl,h1⟩,_,_,rfl,⟨v2,rfl,h2⟩,_,_,rfl,⟨v3,rfl,h3⟩,_,_,rfl,⟨es',rfl,h4⟩,rfl⟩:=h
   obtain ⟨k',rfl⟩:=qkp h1
   obtain ⟨s',rfl⟩:=qrJ h2
   obtain ⟨n',rfl⟩:=qkp h3
   rcases h4 with rfl|h4
   ·refine ⟨⟨k',s',n',[]⟩,rfl,fun d hd=>?_⟩
    cases d with
    | zero=>exact hd
    | succ d=>exact ⟨Nat.zero_le _,fun u hu=>by cases hu⟩
   ·obtain ⟨xs',rfl,hl',hd'⟩:=shTms xs es' h4
    refine ⟨⟨k',s',n',xs'⟩,rfl,fun d hd=>?_⟩
    cases d with
    | zero=>exact hd
    | succ d=>exact ⟨by rw [hl'];exact hd.1,hd' d hd.2⟩
theorem shTms:∀ (xs:List Tm) (es':List (List D)),ShEs (tmDs xs) es'→∃ xs',es'=tmDs xs'∧xs'.length=xs.length∧∀ d,(∀ u∈xs,dlb d u)→∀ u∈xs',dlb d u
 | [],es',h=>by simp only [tmDs,ShEs] at h;subst h;exact ⟨[],rfl,rfl,fun d _ u hu=>by cases hu⟩
 | t::ts,es',h=>by
   simp only [tmDs,ShEs] at h
   obtain ⟨e',es'',rfl,h1,h2⟩:=h
   obtain ⟨t',rfl,h3⟩:=shTm t e' h1
   obtain ⟨ts',rfl,h4,h5⟩:=shTms ts es'' h2
   refine ⟨t'::ts',by simp only [tmDs,qoG],by simp [h4],fun d hd u hu=>?_⟩
   rcases List.mem_cons.1 hu with rfl|hu
   ·exact h3 d (hd t (by simp))
   ·exact h5 d (fun u hu=>hd u (by simp [hu])) u hu
end
theorem shTmD {ds':List D}(h:ShCs (tmD t) ds'):∃ t',ds'=tmD t'∧∀ d,dlb d t→dlb d t':=shTm t ds' (by rw [qoG];exact h)
theorem shBds:∀ (l:List Bd) (es':List (List D)),ShEs (bdDs l) es'→∃ l',es'=bdDs l'∧l'.length=l.length∧∀ d,(∀ b∈l,dlb d b.t)→∀ b∈l',dlb d b.t
 | [],es',h=>by simp only [bdDs,List.map_nil,ShEs] at h;subst h;exact ⟨[],rfl,rfl,fun d _ u hu=>by cases hu⟩
 | b::l,es',h=>by
   simp only [bdDs,List.map_cons,bdD,ShEs,ShCs,ShD] at h
   obtain ⟨e',es'',rfl,⟨_,_,rfl,⟨v,rfl,h0⟩,h1⟩,h2⟩:=h
   obtain ⟨s',rfl⟩:=qrJ h0
   obtain ⟨t',rfl,h3⟩:=shTmD h1
   obtain ⟨l',rfl,h4,h5⟩:=shBds l es'' h2
   refine ⟨⟨s',t'⟩::l',rfl,by simp [h4],fun d hd u hu=>?_⟩
   rcases List.mem_cons.1 hu with rfl|hu
   ·exact h3 d (hd b (by simp))
   ·exact h5 d (fun u hu=>hd u (by simp [hu])) u hu
theorem qpP {o':Ob}(h:ShOb (.box (lift true (tmD t))) o'):∃ t',o'=.box (lift true (tmD t'))∧t'.args.length=t.args.length∧∀ d,dlb d t→dlb d t':=by
 simp only [ShOb,tmD,lift,List.map_cons,List.map_nil,D.av,ShL,ShV,if_true] at h
 obtain ⟨cs',rfl,_,_,rfl,rfl,_,_,rfl,rfl,_,_,rfl,rfl,_,_,rfl,⟨es',rfl,h⟩,rfl⟩:=h
 obtain ⟨xs',rfl,h1,h2⟩:=shTms t.args es' h
 refine ⟨⟨t.kind,t.name,t.n,xs'⟩,rfl,h1,fun d hd=>?_⟩
 cases d with
 | zero=>exact hd
 | succ d=>exact ⟨by rw [h1];exact hd.1,h2 d hd.2⟩
theorem qoP {o:Ob}(h:ShO [(l,o)] O'):∃ o',O'=[(l,o')]∧ShOb o o':=by
 simp only [ShO] at h
 obtain ⟨o',O'',rfl,h,rfl⟩:=h
 exact ⟨o',rfl,h⟩
theorem qnC:∀ (ds:List D) (cs':List AV),ShL (lift false ds) cs'→cs'=lift false ds
 | [],cs',h=>by simpa [lift,ShL] using h
 | d::ds,cs',h=>by
   simp only [lift,List.map_cons,ShL] at h
   obtain ⟨v',vs',rfl,h1,h2⟩:=h
   have ih:=qnC ds vs' h2
   have:v'=D.av false d:=by
    cases d with
    | imm v=>simpa [D.av,ShV] using h1
    | sl k es=>
      simp only [D.av,ShV] at h1
      obtain ⟨es',rfl,h1⟩:=h1
      have:es'=es:=by simpa using h1
      rw [this];rfl
   rw [this,ih];rfl
theorem qrM {ds:List D}(h:ShO [(l,.box (lift false ds))] O'):O'=[(l,.box (lift false ds))]:=by
 obtain ⟨o',rfl,h2⟩:=qoP h
 simp only [ShOb] at h2
 obtain ⟨cs',rfl,h3⟩:=h2
 rw [qnC ds cs' h3]
theorem qjv:∀ (d:Nat) (t:Tm),dlb d t→SPC Tryz.prog 151 (tmA true t)
 | 0,t,h=>h.elim
 | d+1,t,h=>by
   have ih:=fun u hu=>qjv d u hu
   have hlt:=h.1
   refine qiZ Tryz.func151 E Tryz.ntmps151 zL E fun c hL hQW hDD=>(qd (qb (qt E E zD (q6 1 E E E) E (zK (qd (qb ?_))))));refine zX E (qc (qa (qv (qci (α:=Tm) (t.args.length) (fun k u=>dlb (d+1) u∧u.args.length=t.args.length∧k≤t.args.length) (fun k u=>⟨[(1,.ptr 1 0),(2,iv (k:Int))],[(1,.box (lift true (tmD u)))]⟩) (t) (⟨h,rfl,by omega⟩) ?_ (fun k u hk hp=>?_)))))
   ·exact zR hL (zC E (zC E SubT.nil)) (SubO.cons (qU E (by rfl)) SubO.nil)
   have hlu:=qaY u.args
   refine qd (qd (qb (zX E (zA E (qe E qaa E) (zA E (qi E q9 E E E E E) (zA E (qu E qN E) (zA E (qj E E E E) ?_)))))));refine zK (qo E (fun c0=>?_) (fun c0=>?_))
   ·simp only[↓cqA,cqB]at c0
    obtain ⟨x,hx⟩:=qM (l:=u.args) (k:=k) (by omega)
    have hxd:dlb d x:=hp.1.2 x (List.mem_of_getElem? hx)
    refine qr (qa (qd (qv (qd (qb (zA E (qe E qaa E) (zA E (qi E q9 E E E E E) ?_)))))));refine zX E (zA E (qp E qN E E zO (qbP hx)) (zA E (qD E qz E E) (qab (qC (T1:=[(14,tmA true x),(1,.ptr 1 0),(2,iv (k:Int))]) (O1:=[(1,.box (lift true (tmD u)))]) (zB E (zB E (zB E SubT.nil))) (SubO.cons E SubO.nil) E E (noL' (noL hL) _)) (qff E E E zD qe4 E E E E (ih x hxd) hQW (fun T' O' hT hO=>?_)))))
    simp only [ShT,ShV] at hT
    obtain ⟨_,_,rfl,_,_,_,rfl,rfl,_,_,rfl,rfl,rfl⟩:=hT
    obtain ⟨ob1,rfl,hO2⟩:=qoP hO
    obtain ⟨u1,rfl,hu1,hud1⟩:=qpP hO2
    have hlu1:=qaY u1.args
    obtain ⟨x1,hx1⟩:=qM (l:=u1.args) (k:=k) (by omega)
    refine zK (qb (zA E (qe E qaa E) (zA E (qi E q9 E E E E E) (zX E (zA E (qaF E qaJ E qd4 E E) (zA E (qp E qN E E zO (qbP hx1)) (qab (qC (T1:=[(20,.elp true (tmD x1)),(19,.agg [iv (-9),sv ⟨#[]⟩,iv 0,.imm (.slice none 0 0)]),(1,.ptr 1 0),(2,iv (k:Int))]) (O1:=[(1,.box (lift true (tmD u1)))]) (zB E (zB E (zB E (zB E SubT.nil)))) (SubO.cons E SubO.nil) E E (noL' (noL hL) _)) (qep E E E qz E E E E zD E hQW (fun T' O' hT hO=>?_)))))))))
    simp only [ShT,ShV] at hT
    obtain ⟨_,_,rfl,_,_,_,rfl,_,_,_,rfl,rfl,_,_,rfl,rfl,rfl⟩:=hT
    obtain ⟨ob1,rfl,hO2⟩:=qoP hO
    obtain ⟨u2,rfl,hu2,hud2⟩:=qpP hO2
    refine qc (qR (qa (qb (zX E (zA E (qO E E E zO) (zX E (qc ?_)))))));refine qa ?_;refine ⟨?_,u2,?_,?_⟩
    ·omega
    ·exact ⟨hud2 _ (hud1 _ hp.1),by omega,by omega⟩
    exact zR hL (zC E (zC E SubT.nil)) (SubO.cons (qU E (by rfl)) SubO.nil)
   simp only[↓cqA,cqB]at c0
   refine qV (qq (qq (qad (ret0 (noL hL) (.inr E) qh ?_ ?_))))
   ·rfl
   exact ⟨rfl,rfl⟩
theorem qmz (l:List Bd)(hd:∀ b∈l,dlb 5 b.t)(hl:l.length≤1000000):SPC Tryz.prog 89 (.dat true 5 (bdDs l)):=by
 refine qiZ Tryz.func89 E Tryz.ntmps89 zL E fun c hL hQW hDD=>(qd (qb (zX E (zK (qv (qci (α:=List Bd) (l.length) (fun k u=>(∀ b∈u,dlb 5 b.t)∧u.length=l.length∧k≤l.length) (fun k u=>⟨[(0,.dat true 5 (bdDs u)),(2,iv (k:Int))],[]⟩) (l) (⟨hd,rfl,by omega⟩) ?_ (fun k u hk hp=>?_)))))))
 ·exact zR hL (zC E (zC E SubT.nil)) SubO.nil
 have hlu:=qaR u
 refine qd (qd (qb (zX E (zX E (zA E (qu E qA E) (zA E (qj E E E E) (qc ?_)))))));refine qa (qo E (fun c0=>?_) (fun c0=>?_))
 ·simp only[↓cqA,cqB]at c0
  obtain ⟨x,hx⟩:=qM (l:=u) (k:=k) (by omega)
  have hxd:dlb 5 x.t:=hp.1 x (List.mem_of_getElem? hx)
  refine qr (qa (qd (qv (qd (qb (zX E (zX E ?_)))))));refine zA E (qp E qA E E zO (qbj hx)) (zA E (qJ E qbc E) (zA E (qD E qz E E) (qab (qC (T1:=[(13,tmA true x.t),(0,.dat true 5 (bdDs u)),(2,iv (k:Int))]) (O1:=[]) (zB E (zB E (zB E SubT.nil))) SubO.nil E E (noL' (noL hL) _)) (qff E E E zD qe4 E E E E (qjv 5 x.t hxd) hQW (fun T' O' hT hO=>?_)))))
  simp only [ShT,ShV,if_true] at hT
  obtain ⟨_,_,rfl,_,_,_,rfl,⟨es,rfl,hes⟩,_,_,rfl,rfl,rfl⟩:=hT
  simp only [ShO] at hO
  subst hO
  obtain ⟨u1,rfl,hu1,hud1⟩:=shBds u es hes
  have hlu1:=qaR u1
  obtain ⟨x1,hx1⟩:=qM (l:=u1) (k:=k) (by omega)
  refine zK (qb (zX E (zX E (zA E (qaF E qa7 E qez E E) (zA E (qp E qA E E zO (qbj hx1)) (qab (qC (T1:=[(18,.elp true (bdD x1)),(17,.agg [sv ⟨#[115,112,111,105,108,116]⟩,iv 0,sv ⟨#[]⟩,iv 0,.imm (.slice none 0 0)]),(0,.dat true 5 (bdDs u1)),(2,iv (k:Int))]) (O1:=[]) (zB E (zB E (zB E (zB E SubT.nil)))) SubO.nil E E (noL' (noL hL) _)) (qep E E E qa1 E E E E zD E hQW (fun T' O' hT hO=>?_))))))))
  simp only [ShT,ShV,if_true] at hT
  obtain ⟨_,_,rfl,_,_,_,rfl,_,_,_,rfl,⟨es2,rfl,hes2⟩,_,_,rfl,rfl,rfl⟩:=hT
  simp only [ShO] at hO
  subst hO
  obtain ⟨u2,rfl,hu2,hud2⟩:=shBds u1 es2 hes2
  refine qc (qR (qa (qb (zX E (zA E (qO E E E zO) (zX E (qc ?_)))))));refine qa ?_;refine ⟨?_,u2,?_,?_⟩
  ·omega
  ·exact ⟨hud2 _ (hud1 _ hp.1),by omega,by omega⟩
  exact zR hL (zC E (zC E SubT.nil)) SubO.nil
 simp only[↓cqA,cqB]at c0
 refine qV (qq (qq (qad (ret0 (noL hL) (.inr E) qh ?_ ?_))))
 ·rfl
 exact ⟨rfl,rfl⟩
theorem qqs:∀ {l m:List Bd},(∀ b∈l,dle 5 b.t)→qjJ l m=true→l=m
 | [],[],_,_=>rfl
 | [],_::_,_,h=>by cases h
 | _::_,[],_,h=>by cases h
 | a::l,b::m,hd,h=>by
   simp only [qjJ,eqBd,Bool.and_eq_true,decide_eq_true_eq] at h
   have h1:=(qgD 5 _ _ (hd a (by simp))).1 h.1.2
   have ih:=qqs (fun c hc=>hd c (by simp [hc])) h.2
   have h2:=h.1.1
   cases a;cases b;simp only at h1 h2;rw [h1,h2,ih]
theorem qpw (d:Nat)(f:Ft)(hd:dle d f.t)(hf:f.wf):PF 255 [ftA f] (.agg (lift true (ftD f))):=by
 have hft:=hf.1
 refine qI Tryz.func255 E Tryz.ntmps255 zL fun c hL hQ hDD=>(qd (qb (qt E E zD (q6 1 E E E) E (qt E E zD (qat 2 E qgk E) E (zK (qd ?_))))));refine qb (zA E (qF E qaZ E E E E) ?_)
 refine qt E E zD (qat 3 E qgk E) E (qT E E E qaZ E E E E E E E E E (zK (qd (qb (zA E (qe E qbh E) (zA E (qi E qz E E E E E) ?_))))));refine qH (avs:=[_]) true E E E zD qch E E (qgP d f.t hd hft) E E ?_
 refine zA E (qe E qbh E) (qT E E E qz E E E E E E E E E (zK (qd (qb (zA E (qF E qaZ E E E E) (qT E E E qaZ E E E E E E E E E ?_))))));refine zK (qn (zI hL (qaS qaZ E E E qh) ?_ ?_))
 ·rfl
 exact ⟨rfl,rfl⟩
theorem qpv (d:Nat)(k:Kp)(hd:dle d k.f.t)(hk:k.wf):PF 193 [kpA k] (.agg (lift true (kpD k))):=by
 have hkf:=hk.2
 refine qI Tryz.func193 E Tryz.ntmps193 zL fun c hL hQ hDD=>(qd (qb (qt E E zD (q6 1 E E E) E (qt E E zD (qat 2 E qdw E) E (zK (qd ?_))))));refine qb (zA E (qF E qb5 E E E E) ?_)
 refine qt E E zD (qat 3 E qdw E) E (qT E E E qb5 E E E E E E E E E (zK (qd (qb (zA E (qe E qaM E) (zA E (qi E qaZ E E E E E) ?_))))));refine qH (avs:=[_]) true E E E zD qgb E E (qpw d k.f hd hkf) E E ?_
 refine zA E (qe E qaM E) (qT E E E qaZ E E E E E E E E E (zK (qd (qb (zA E (qF E qb5 E E E E) (qT E E E qb5 E E E E E E E E E ?_))))));refine zK (qn (zI hL (qaS qb5 E E E qh) ?_ ?_))
 ·rfl
 exact ⟨rfl,rfl⟩
theorem qnh (d:Nat)(a:Ft)(hd:dle d a.t)(ha:a.wf):PF 58 [ftA a,ftA a] (bv true):=by
 have ha1:=ha.1
 have key:=qeT d a.t a.t hd ha1 ha1
 rw [qn5 hd] at key
 refine qI Tryz.func58 E Tryz.ntmps58 zL fun c hL hQ hDD=>(qd (qb (qt E E zD (q6 2 E E E) E (qt E E zD (q6 3 E E E) E (zX E (zK ?_))))));refine qd (qb (zA E (qe E qbh E) (zA E (qi E qz E E E E E) (zA E (qe E qbh E) (zA E (qi E qz E E E E E) (qH (avs:=[_,_]) true E E E zD qbg E E (key) E E (zX E (qE 10 E (fun g10=>?_) (fun g10=>?_)))))))))
 ·simp only[↓cqA,cqB]at g10
  refine zZ E (qe E qct E) (zZ E (qi E qav E E E E E) (zZ E (qe E qct E) (zZ E (qi E qav E E E E E) (zZ E (qfd E E E) (zA E (qk E E E) (zX E (zK (qn (zI hL (qg E qh) ?_ ?_)))))))))
  ·rfl
  refine ⟨q7 ?_,rfl⟩
  first|rfl|simp_all
 refine zY E (zY E (zY E (zY E (zY E (zA E (qk E E E) (zX E (qc ?_)))))));refine qa (qn (zI hL (qg E qh) ?_ ?_))
 ·rfl
 refine ⟨q7 ?_,rfl⟩
 first|rfl|simp_all
theorem qng (d:Nat)(a:Kp)(hd:dle d a.f.t)(ha:a.wf):PF 199 [kpA a,kpA a] (bv true):=by
 have ha2:=ha.2
 refine qI Tryz.func199 E Tryz.ntmps199 zL fun c hL hQ hDD=>(qd (qb (qt E E zD (q6 2 E E E) E (qt E E zD (q6 3 E E E) E (zX E (zK ?_))))));refine qd (qb (zA E (qe E qa4 E) (zA E (qi E qQ E E E E E) (zA E (qe E qa4 E) (zA E (qi E qQ E E E E E) (zA E (qj E E E E) (zX E (qE 10 E (fun g10=>?_) (fun g10=>?_)))))))))
 ·simp only[↓cqA,cqB]at g10
  refine zZ E (qe E qaM E) (zZ E (qi E qaZ E E E E E) (zZ E (qe E qaM E) (zZ E (qi E qaZ E E E E E) (zZ E (qai (avs:=[_,_]) true E qdq E E (qnh d a.f hd ha2) (fun _=>rfl) E) (zA E (qk E E E) (zX E (zK (qn (zI hL (qg E qh) ?_ ?_)))))))))
  ·rfl
  refine ⟨q7 ?_,rfl⟩
  first|rfl|simp_all
 simp only[↓cqA,cqB]at g10
 refine zY E (zY E (zY E (zY E (zY E (zA E (qk E E E) (zX E (qc ?_)))))));refine qa (qn (zI hL (qg E qh) ?_ ?_))
 ·rfl
 refine ⟨q7 ?_,rfl⟩
 first|rfl|simp_all
theorem qeJ (d:Nat)(x:List Kp)(hd:∀ u∈x,dle d u.f.t)(wx:∀ u∈x,u.wf)(lx:x.length≤140737488351232):PF 131 [.dat false 7 (kpDs x),.dat false 7 (kpDs x)] (bv true):=by
 have hlx:=qc3 x
 refine qI Tryz.func131 E Tryz.ntmps131 zL fun c hL hQ hDD=>(qd (qb (zX E (zK (qd (qd ?_))))));refine qb (zX E (zA E (qu E qaf E) (zX E (zA E (qu E qaf E) (zA E (qj E E E E) (zK (qo E (fun c0=>?_) (fun c0=>?_))))))))
 ·simp only[↓cqA,cqB]at c0
  refine qd (qb (zX E (zK (qn (qm (zI hL (qg E qh) ?_ ?_))))))
  ·rfl
  first
  | exact ⟨rfl,rfl⟩
  | exact absurd trivial c0
  | exact absurd E c0
  | exact absurd c2 (by simp)
  | exact absurd c2 Bool.noConfusion
  | (trace_state;fail)
 simp only[↓cqA,cqB]at c0
 refine qr (qa (qd (qd (qb (zX E (zK ?_))))));refine qv (qac (x.length) (fun k=>k≤x.length) (fun k=>⟨[(0,.dat false 7 (kpDs x)),(1,.dat false 7 (kpDs x)),(5,iv (k:Int))],[]⟩) zO ?_ (fun k hk hp=>?_))
 ·exact zR hL (zC E (zC E (zC E SubT.nil))) SubO.nil
 refine qd (qd (qb (zX E (zX E (zA E (qu E qaf E) (zA E (qj E E E E) (qc ?_)))))));refine qa (qo E (fun c1=>?_) (fun c1=>?_))
 ·simp only[↓cqA,cqB]at c1
  obtain ⟨u,hu⟩:=qM (l:=x) (k:=k) (by omega)
  refine qr (qa (qd (qv (qd (qX 8 mixed E E E E (zU E (ql (.inl E) E) (zU E (ql (.inl E) E) ?_)))))));refine zU E (qp E qaf E E zO (qby hu)) (zU E (qD E qb5 E E) (zU E (ql (.inl E) E) (zU E (ql (.inl E) E) (zU E (qp E qaf E E zO (qby hu)) (zU E (qD E qb5 E E) ?_)))))
  refine qaq ⟨rfl,rfl,?_⟩;refine qH (avs:=[_,_]) true E E E zD qgU E E (qng d u (hd u (List.mem_of_getElem? hu)) (wx u (List.mem_of_getElem? hu))) E E (zA E (qaB E E) (zK (qo E (fun c2=>?_) (fun c2=>?_))))
  ·simp only[↓cqA,cqB]at c2
   refine qd (qb (zX E (zK (qn (qP (qm (qm (qP (qm (zI hL (qg E qh) ?_ ?_))))))))))
   ·rfl
   first
   | exact ⟨rfl,rfl⟩
   | exact absurd trivial c0
   | exact absurd E c0
   | exact absurd c2 (by simp)
   | exact absurd c2 Bool.noConfusion
   | (trace_state;fail)
  simp only[↓cqA,cqB]at c2
  refine qr (qR (qa (qb (zX E (zA E (qO E E E zO) (zX E (qc ?_)))))));refine qa ?_;refine ⟨?_,?_,?_⟩
  ·omega
  ·omega
  exact zR hL (zC E (zC E (zC E SubT.nil))) SubO.nil
 simp only[↓cqA,cqB]at c1
 refine qV (qq (qq (qad ?_)));refine qa (qd (qb (zX E (zK (qn (zI hL (qg E qh) ?_ ?_))))))
 ·rfl
 first
 | exact ⟨rfl,rfl⟩
 | exact absurd trivial c0
 | exact absurd E c0
 | exact absurd c2 (by simp)
 | exact absurd c2 Bool.noConfusion
 | (trace_state;fail)
end Go.Proofs.YtpgceiijoedppaaGreat