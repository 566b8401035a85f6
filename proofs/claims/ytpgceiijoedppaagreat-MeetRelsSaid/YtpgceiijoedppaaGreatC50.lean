/- Part 50 of the proof: Oi, Rdc, Rdd, Rdf. -/
import Derived.Test.YtpgceiijoedppaaGreatC49
set_option linter.unusedVariables false
set_option linter.unusedSimpArgs false
set_option maxRecDepth 8000
namespace Go.Proofs.YtpgceiijoedppaaGreat
open Go
section
variable {c:Ctx}{N:Nat}
theorem qpS {w:World}{ρ:Nat→Value}{S:Bool→Nat→Prop}{U:Nat→Prop}{v:Value}{n:AV}(hn:Rep w ρ S U n v):∀ (i:Nat) (cs:List AV) (xs:List Value),RepL w ρ S U cs xs→cs[i]?=some (.imm v)→RepL w ρ S U (cs.set i n) xs
 | _,[],xs,h,hi=>by simp at hi
 | 0,a::cs,xs,h,hi=>by
   simp only [List.getElem?_cons_zero,Option.some.injEq] at hi
   subst hi
   simp only [RepL] at h
   obtain ⟨y,ys,rfl,h1,h2⟩:=h
   simp only [Rep] at h1
   subst h1
   simp only [List.set_cons_zero,RepL]
   exact ⟨_,ys,rfl,hn,h2⟩
 | i+1,a::cs,xs,h,hi=>by
   simp only [RepL] at h
   obtain ⟨y,ys,rfl,h1,h2⟩:=h
   simp only [List.set_cons_succ,RepL]
   exact ⟨y,ys,rfl,h1,qpS hn i cs ys h2 (by simpa using hi)⟩
theorem qnv {T:List (Nat×AV)}{O:List (Nat×Ob)}{b l i:Nat}{cs:List AV}(e:TypeId)(k:Nat)(f:Bool)(hb:ok O b=some (.box cs))(hi:cs[i]?=some (.imm (.slice none 0 0)))(hl:ok O l=none):Sub c N ⟨T,O⟩ ⟨T,(b,.box (cs.set i (.row l)))::(l,.rowd e k f [])::O⟩:=by
 rintro a w ⟨ρ,S,hc⟩
 have h1:Conc c N ⟨T,(l,.rowd e k f [])::O⟩ a w (upd ρ l (.slice none 0 0)) S:=
  hc.addOb hl (fun b hb=>by simp [blk] at hb) ⟨by simp,[],by rw [qbY];exact World.ownsRow_nil w 0 e k,by simp,by simp [lift,RepL]⟩
 have hne:¬ b=l:=fun e=>by subst e;rw [hl] at hb;cases hb
 have hb2:ok ((l,Ob.rowd e k f [])::O) b=some (.box cs):=by rw [qa0,if_neg (by exact fun e=>hne e.symm)];exact hb
 refine ⟨_,S,h1.modOb hb2 trivial (Far.refl _ _) ?_⟩
 obtain ⟨bb,ty,xs,q1,q2,q3,q4⟩:=h1.O b _ hb2
 refine ⟨bb,ty,xs,q1,q2,q3,?_⟩
 have hrow:Rep w (upd ρ l (.slice none 0 0)) S (St.U ⟨T,(l,.rowd e k f [])::O⟩) (.row l) (.slice none 0 0):=by
  simp only [Rep]
  exact ⟨by simp [St.U,qa0],by rw [qbY],_,_,_,rfl⟩
 exact (qpS hrow i cs xs q4 hi).mono (fun _ _ h=>h) (fun _ _ _=>rfl) qet (fun _ _=>rfl)
end
theorem qmu {P:Program}{c:Ctx}{N:Nat}{σ:St}{o:Oper}{t t':TypeId}{x y:Operand}{a b r:Int}(ho:o.op=.binOp .rem t x y t')(hx:ev σ.T x=some (.imm (.int .i64 a)))(hy:ev σ.T y=some (.imm (.int .i64 b)))(h0:b≠0)(hr:a.tmod b=r):Stp P c N o σ [] (.imm (.int .i64 r)) []:=
 qj ho hx hy (by simp only [binI,if_neg h0,hr])
theorem qml {a b:Int}(ha:0≤a)(hb:0<b):∃ r:Nat,a.tmod b=(r:Int)∧(r:Int)<b:=by
 have h1:=Int.tmod_nonneg b ha
 have h2:=Int.tmod_lt_of_pos a hb
 obtain ⟨r,hr⟩:=Int.eq_ofNat_of_zero_le h1
 exact ⟨r,hr,by omega⟩
def wf13 (p:qhQ):Prop:=p.X.length*144≤140737488351232∧p.wf
theorem qiJ (p:qhQ)(hp:wf13 p)(kind:Int)(hk:2≤kind∧kind≤6):PF 30 [.agg (lift false (a13D p)),iv kind] (bv true):=by
 obtain ⟨hX,hpw⟩:=hp
 obtain ⟨⟨hlL,hwL⟩,⟨hlX,hwX⟩,hZ,hlM,hwM⟩:=id hpw
 simp only [qbt] at hlL hlX
 have hlen:=qaQ p.X
 have hlK:=qc3 p.L
 have hki:i64 kind:=⟨by omega,by omega⟩
 have hz0:(⟨0,⟨#[]⟩,0,[]⟩:Tm).wf:=⟨by decide,by decide,by decide,by decide,trivial⟩
 have hl1:∀ x:Pt,qbt [x]:=fun x=>by simp [qbt]
 have hw1:∀ x:Pt,x.wf→Pt.wfs [x]:=fun x h=>Pt.wfs_iff.2 fun t ht=>by rw [List.mem_singleton.1 ht];exact h
 refine qI Tryz.func30 E Tryz.ntmps30 zL fun c hL hQ hDD=>(qd (qb (qt E E zD (q6 2 E E E) E (zX E (zK (qd ?_))))));refine qb (zA E (qF E qbp E E E E) (qt E E zD (qat 5 E qhJ E) E (qT E E E qbp E E E E E E E E E (zK (qd (qb (zA E (qe E q8 E) ?_)))))))
 refine qT E E E qB E E E E E E E E E (zK (qd (qd (qb (zX E (qc ?_))))));refine qa (qv (qci (α:=List Pt) (p.X.length) (fun k xs=>k≤p.X.length∧xs.length=k∧∀ x∈xs,x.wf) (fun k xs=>⟨[(1,iv kind),(2,.ptr 2 0),(5,.ptr 5 0),(6,iv (k:Int))],[(2,.box (lift false (a13D p))),(5,.box [.dat false 7 (kpDs p.L),.row 9,iv p.N,.dat false 4 (mtDs p.M)]),(9,.rowd 36 9 false (ptDs xs))]⟩) ([]) (⟨by omega,rfl,fun x hx=>by cases hx⟩) ?_ (fun k xs hk hp=>?_)))
 ·exact Sub.trans (qnv (b:=5) (l:=9) (i:=1) 36 9 false E E E) (qC (zC E (zC E (zC E (zC E SubT.nil)))) (SubO.cons (qU E (by rfl)) (SubO.cons (qU E (by rfl)) (SubO.cons (qU E (by rfl)) SubO.nil))) E E (noL' (noL hL) _))
 have hl2:(ptDs xs).length=xs.length:=qaQ xs
 refine qd (qd (qb (zX E (zA E (qe E q8 E) (zA E (qi E qB E E E E E) (zA E (qu E qy E) (zA E (qj E E E E) ?_)))))));refine zK (qo E (fun c0=>?_) (fun c0=>?_))
 ·simp only[↓cqA,cqB]at c0
  obtain ⟨x,hx⟩:=qM (l:=p.X) (k:=k) (by omega)
  have hxw:=Pt.wf_mem hwX (List.mem_of_getElem? hx)
  obtain ⟨r,hr1,hr2⟩:=qml (a:=(k:Int)+1) (b:=((ptDs p.X).length:Int)) (by omega) (by omega)
  obtain ⟨y,hy⟩:=qM (l:=p.X) (k:=r) (by omega)
  have hyw:=Pt.wf_mem hwX (List.mem_of_getElem? hy)
  refine qr (qa (qd (qv (qd (qb (zX E (zA E (qO E E E zO) ?_)))))));refine zA E (qe E q8 E) (zA E (qi E qB E E E E E) (zA E (qu E qy E) ?_))
  refine zA E (qmu E E E zO hr1) (zX E (zK (qd (qX 15 mixed E E E E (zU E (ql (.inl E) E) (zU E (qe E q8 E) ?_))))));refine zU E (qi E qB E E E E E) (zU E (ql (.inl E) E) (zU E (qp E qy E E zO (qba hx)) (zU E (qD E qL E E) (zU E (qbk false E qy qaX E E zD zD zD E E E E) (zU E (qe E q8 E) (zU E (qi E qB E E E E E) (zU E (ql (.inl E) E) (zU E (qp E qy E E zO (qba hy)) (zU E (qD E qL E E) ?_)))))))))
  refine zU E (qbk false E qy qaX E E zD zD zD E E E E) (zU E (qaF E qaX E qeG E E) (qhr E zD (.run E (qat 8 E qaX E)) (qaq ⟨rfl,rfl,?_⟩)))
  refine qT E E E qL E E E E E E E E E (zK (qd (qd (qb (zX E (zA E (qj E E E E) ?_))))));refine zK (qo E (fun c1=>?_) (fun c1=>?_))
  ·simp only[↓cqA,cqB]at c1
   obtain ⟨r2,hs1,hs2⟩:=qml (a:=(k:Int)+2) (b:=((ptDs p.X).length:Int)) (by omega) (by omega)
   obtain ⟨z,hz⟩:=qM (l:=p.X) (k:=r2) (by omega)
   have hzw:=Pt.wf_mem hwX (List.mem_of_getElem? hz)
   obtain ⟨cl,hcq,hcl⟩:∃ cl:List Pt,cl=[z]∧qbt cl∧Pt.wfs cl:=⟨_,rfl,hl1 z,hw1 z hzw⟩
   refine qX 8 mixed E E E E (zU E (qe E q8 E) (zU E (qi E qB E E E E E) (zU E (ql (.inl E) E) (zU E (qO E E E zO) (zU E (qe E q8 E) (zU E (qi E qB E E E E E) ?_))))))
   refine zU E (qu E qy E) (zU E (qmu E E E zO hs1) (qaq ⟨rfl,rfl,?_⟩));refine zA E (qp E qy E E zO (qba hz)) (zA E (qD E qL E E) (zA E (qbk false E qy qaX E E zD zD zD E E E E) ?_))
   refine zA E (qe E qaD E) (qT E E E qB E E E E E E E E E (zK (qd (qd (qb (zX E ?_))))));refine zA E (qj E E E E) (zK (qo E (fun c2=>?_) (fun c2=>?_)))
   ·simp only[↓cqA,cqB]at c2
    obtain ⟨r3,ht1,ht2⟩:=qml (a:=(k:Int)+(kpDs p.L).length) (b:=13) (by omega) (by omega)
    obtain ⟨rl,hrq,hrl⟩:∃ rl:Int,rl=1+(r3:Int)∧i64 rl:=⟨_,rfl,by simp only [i64];omega⟩
    refine qb (zX E (zA E (qe E qaI E) (zA E (qi E qbq E E E E E) (zA E (qu E qaf E) (zA E (qO E E E zO) (zA E (qmu E E E zD ht1) (zA E (qO E E E zO) (zA E (qe E qaT E) (qT E E E qQ E E E E E E E E E (zK ?_))))))))))
    have hcs:lift false (ptD ⟨kind,⟨0,⟨#[]⟩,0,[]⟩,rl,[x],[y],cl⟩)=[iv kind,iv 0,sv ⟨#[]⟩,iv 0,.dat false 4 [],iv rl,.dat false 9 [ptD x],.dat false 9 [ptD y],.dat false 9 (cl.map ptD)]:=by
     simp [lift,ptD,D.av,qd1,tmDs];rfl
    refine qbI (qio (l:=8) (cs':=lift false (ptD ⟨kind,⟨0,⟨#[]⟩,0,[]⟩,rl,[x],[y],cl⟩)) E (by
     rw [hcs]
     subst hrq hcq
     first
      | exact .cons .refl (.cons .refl (.cons .refl (.cons .refl (.cons .nil (.cons .refl (.cons .refl (.cons .refl (.cons .nil .nil))))))))
      | exact .cons .refl (.cons .refl (.cons .refl (.cons .refl (.cons .nil (.cons .refl (.cons .refl (.cons .refl (.cons .refl .nil)))))))))) ?_
    refine qb (zA E (qe E q8 E) (zA E (qi E qB E E E E E) (zA E (qF E qL E E E E) (qt E E zD (qaj 65 E qy qaX E E zD zD zD E E E) E (qbW E E zD (qaU 66 qck E E E E E E E E (noL hL _) zO E) E ?_)))))
    refine zA E (qe E q8 E) (qT E E E qB E E E E E E E E E (qc (qR (qa (qb (zX E (zA E (qO E E E zO) ?_)))))));refine zX E (zK ?_);refine ⟨?_,xs++[⟨kind,⟨0,⟨#[]⟩,0,[]⟩,rl,[x],[y],cl⟩],?_,?_⟩
    ·omega
    ·refine ⟨by omega,by simp;omega,fun v hv=>?_⟩
     rcases List.mem_append.1 hv with h|h
     ·exact hp.2.2 v h
     ·rw [List.mem_singleton.1 h]
      exact ⟨hki,hz0,hrl,⟨hl1 x,hw1 x hxw⟩,⟨hl1 y,hw1 y hyw⟩,hcl.1,hcl.2⟩
    exact Sub.trans (qZ 66 9 (noL hL _) (noL hL _)) (qC (zC E (zC E (zC E (zC E SubT.nil)))) (SubO.cons (qU E (by rfl)) (SubO.cons (qU E (by rfl)) (SubO.cons (qU E (by rw [qg7];rfl)) SubO.nil))) E E (noL' (noL hL) _))
   simp only[↓cqA,cqB]at c2
   obtain ⟨rl,hrq,hrl⟩:∃ rl:Int,rl=0∧i64 rl:=⟨_,rfl,by decide⟩
   refine qr (qa ?_)
   have hcs:lift false (ptD ⟨kind,⟨0,⟨#[]⟩,0,[]⟩,rl,[x],[y],cl⟩)=[iv kind,iv 0,sv ⟨#[]⟩,iv 0,.dat false 4 [],iv rl,.dat false 9 [ptD x],.dat false 9 [ptD y],.dat false 9 (cl.map ptD)]:=by
    simp [lift,ptD,D.av,qd1,tmDs];rfl
   refine qbI (qio (l:=8) (cs':=lift false (ptD ⟨kind,⟨0,⟨#[]⟩,0,[]⟩,rl,[x],[y],cl⟩)) E (by
    rw [hcs]
    subst hrq hcq
    first
     | exact .cons .refl (.cons .refl (.cons .refl (.cons .refl (.cons .nil (.cons .refl (.cons .refl (.cons .refl (.cons .nil .nil))))))))
     | exact .cons .refl (.cons .refl (.cons .refl (.cons .refl (.cons .nil (.cons .refl (.cons .refl (.cons .refl (.cons .refl .nil)))))))))) ?_
   refine qb (zA E (qe E q8 E) (zA E (qi E qB E E E E E) (zA E (qF E qL E E E E) (qt E E zD (qaj 65 E qy qaX E E zD zD zD E E E) E (qbW E E zD (qaU 66 qck E E E E E E E E (noL hL _) zO E) E ?_)))))
   refine zA E (qe E q8 E) (qT E E E qB E E E E E E E E E (qc (qR (qa (qb (zX E (zA E (qO E E E zO) ?_)))))));refine zX E (zK ?_);refine ⟨?_,xs++[⟨kind,⟨0,⟨#[]⟩,0,[]⟩,rl,[x],[y],cl⟩],?_,?_⟩
   ·omega
   ·refine ⟨by omega,by simp;omega,fun v hv=>?_⟩
    rcases List.mem_append.1 hv with h|h
    ·exact hp.2.2 v h
    ·rw [List.mem_singleton.1 h]
     exact ⟨hki,hz0,hrl,⟨hl1 x,hw1 x hxw⟩,⟨hl1 y,hw1 y hyw⟩,hcl.1,hcl.2⟩
   exact Sub.trans (qZ 66 9 (noL hL _) (noL hL _)) (qC (zC E (zC E (zC E (zC E SubT.nil)))) (SubO.cons (qU E (by rfl)) (SubO.cons (qU E (by rfl)) (SubO.cons (qU E (by rw [qg7];rfl)) SubO.nil))) E E (noL' (noL hL) _))
  simp only[↓cqA,cqB]at c1
  obtain ⟨cl,hcq,hcl⟩:∃ cl:List Pt,cl=[]∧qbt cl∧Pt.wfs cl:=⟨_,rfl,qiK,trivial⟩
  refine qr (qa (qd (qd (qb (zX E (zA E (qj E E E E) (qc ?_)))))));refine qa (qo E (fun c2=>?_) (fun c2=>?_))
  ·simp only[↓cqA,cqB]at c2
   obtain ⟨r3,ht1,ht2⟩:=qml (a:=(k:Int)+(kpDs p.L).length) (b:=13) (by omega) (by omega)
   obtain ⟨rl,hrq,hrl⟩:∃ rl:Int,rl=1+(r3:Int)∧i64 rl:=⟨_,rfl,by simp only [i64];omega⟩
   refine qb (zX E (zA E (qe E qaI E) (zA E (qi E qbq E E E E E) (zA E (qu E qaf E) (zA E (qO E E E zO) (zA E (qmu E E E zD ht1) (zA E (qO E E E zO) (zA E (qe E qaT E) (qT E E E qQ E E E E E E E E E (zK ?_))))))))))
   have hcs:lift false (ptD ⟨kind,⟨0,⟨#[]⟩,0,[]⟩,rl,[x],[y],cl⟩)=[iv kind,iv 0,sv ⟨#[]⟩,iv 0,.dat false 4 [],iv rl,.dat false 9 [ptD x],.dat false 9 [ptD y],.dat false 9 (cl.map ptD)]:=by
    simp [lift,ptD,D.av,qd1,tmDs];rfl
   refine qbI (qio (l:=8) (cs':=lift false (ptD ⟨kind,⟨0,⟨#[]⟩,0,[]⟩,rl,[x],[y],cl⟩)) E (by
    rw [hcs]
    subst hrq hcq
    first
     | exact .cons .refl (.cons .refl (.cons .refl (.cons .refl (.cons .nil (.cons .refl (.cons .refl (.cons .refl (.cons .nil .nil))))))))
     | exact .cons .refl (.cons .refl (.cons .refl (.cons .refl (.cons .nil (.cons .refl (.cons .refl (.cons .refl (.cons .refl .nil)))))))))) ?_
   refine qb (zA E (qe E q8 E) (zA E (qi E qB E E E E E) (zA E (qF E qL E E E E) (qt E E zD (qaj 65 E qy qaX E E zD zD zD E E E) E (qbW E E zD (qaU 66 qck E E E E E E E E (noL hL _) zO E) E ?_)))))
   refine zA E (qe E q8 E) (qT E E E qB E E E E E E E E E (qc (qR (qa (qb (zX E (zA E (qO E E E zO) ?_)))))));refine zX E (zK ?_);refine ⟨?_,xs++[⟨kind,⟨0,⟨#[]⟩,0,[]⟩,rl,[x],[y],cl⟩],?_,?_⟩
   ·omega
   ·refine ⟨by omega,by simp;omega,fun v hv=>?_⟩
    rcases List.mem_append.1 hv with h|h
    ·exact hp.2.2 v h
    ·rw [List.mem_singleton.1 h]
     exact ⟨hki,hz0,hrl,⟨hl1 x,hw1 x hxw⟩,⟨hl1 y,hw1 y hyw⟩,hcl.1,hcl.2⟩
   exact Sub.trans (qZ 66 9 (noL hL _) (noL hL _)) (qC (zC E (zC E (zC E (zC E SubT.nil)))) (SubO.cons (qU E (by rfl)) (SubO.cons (qU E (by rfl)) (SubO.cons (qU E (by rw [qg7];rfl)) SubO.nil))) E E (noL' (noL hL) _))
  simp only[↓cqA,cqB]at c2
  obtain ⟨rl,hrq,hrl⟩:∃ rl:Int,rl=0∧i64 rl:=⟨_,rfl,by decide⟩
  refine qr (qa ?_)
  have hcs:lift false (ptD ⟨kind,⟨0,⟨#[]⟩,0,[]⟩,rl,[x],[y],cl⟩)=[iv kind,iv 0,sv ⟨#[]⟩,iv 0,.dat false 4 [],iv rl,.dat false 9 [ptD x],.dat false 9 [ptD y],.dat false 9 (cl.map ptD)]:=by
   simp [lift,ptD,D.av,qd1,tmDs];rfl
  refine qbI (qio (l:=8) (cs':=lift false (ptD ⟨kind,⟨0,⟨#[]⟩,0,[]⟩,rl,[x],[y],cl⟩)) E (by
   rw [hcs]
   subst hrq hcq
   first
    | exact .cons .refl (.cons .refl (.cons .refl (.cons .refl (.cons .nil (.cons .refl (.cons .refl (.cons .refl (.cons .nil .nil))))))))
    | exact .cons .refl (.cons .refl (.cons .refl (.cons .refl (.cons .nil (.cons .refl (.cons .refl (.cons .refl (.cons .refl .nil)))))))))) ?_
  refine qb (zA E (qe E q8 E) (zA E (qi E qB E E E E E) (zA E (qF E qL E E E E) (qt E E zD (qaj 65 E qy qaX E E zD zD zD E E E) E (qbW E E zD (qaU 66 qck E E E E E E E E (noL hL _) zO E) E ?_)))))
  refine zA E (qe E q8 E) (qT E E E qB E E E E E E E E E (qc (qR (qa (qb (zX E (zA E (qO E E E zO) ?_)))))));refine zX E (zK ?_);refine ⟨?_,xs++[⟨kind,⟨0,⟨#[]⟩,0,[]⟩,rl,[x],[y],cl⟩],?_,?_⟩
  ·omega
  ·refine ⟨by omega,by simp;omega,fun v hv=>?_⟩
   rcases List.mem_append.1 hv with h|h
   ·exact hp.2.2 v h
   ·rw [List.mem_singleton.1 h]
    exact ⟨hki,hz0,hrl,⟨hl1 x,hw1 x hxw⟩,⟨hl1 y,hw1 y hyw⟩,hcl.1,hcl.2⟩
  exact Sub.trans (qZ 66 9 (noL hL _) (noL hL _)) (qC (zC E (zC E (zC E (zC E SubT.nil)))) (SubO.cons (qU E (by rfl)) (SubO.cons (qU E (by rfl)) (SubO.cons (qU E (by rw [qg7];rfl)) SubO.nil))) E E (noL' (noL hL) _))
 simp only[↓cqA,cqB]at c0
 refine qbI (qaG (l:=9) E zD (noL hL _) E E) (qV (qq (qq (qad ?_))));refine qa (qd (qb (zA E (qF E qbp E E E E) ?_)))
 refine qH (avs:=[_]) true E E E zD qgc E E (qro ⟨p.L,xs,p.N,p.M⟩ ⟨⟨hlL,hwL⟩,⟨by simp only [qbt];omega,Pt.wfs_iff.2 hp.2.2⟩,hZ,hlM,hwM⟩) E E ?_;refine zX E ?_;refine qc ?_;refine qa ?_;refine qn (zI hL (qg E qh) ?_ ?_)
 ·rfl
 exact ⟨rfl,rfl⟩
theorem qps (p:qhQ)(hp:wf13 p):PF 4 [.agg (lift false (a13D p))] (bv true):=by
 refine qI Tryz.func4 E Tryz.ntmps4 zL fun c hL hQ hDD=>(qd (qb (qt E E zD (q6 1 E E E) E (zX E (zK (qd ?_))))));refine qb (zA E (qF E qbp E E E E) (qH (avs:=[_,_]) true E E E zD qdg E E (qiJ p hp 2 zO) E E (zX E (zK (qn (zI hL (qg E qh) ?_ ?_))))))
 ·rfl
 exact ⟨rfl,rfl⟩
theorem qoy (p:qhQ)(hp:wf13 p):PF 5 [.agg (lift false (a13D p))] (bv true):=by
 refine qI Tryz.func5 E Tryz.ntmps5 zL fun c hL hQ hDD=>(qd (qb (qt E E zD (q6 1 E E E) E (zX E (zK (qd ?_))))));refine qb (zA E (qF E qbp E E E E) (qH (avs:=[_,_]) true E E E zD qdg E E (qiJ p hp 3 zO) E E (zX E (zK (qn (zI hL (qg E qh) ?_ ?_))))))
 ·rfl
 exact ⟨rfl,rfl⟩
theorem qrn (p:qhQ)(hp:wf13 p):PF 6 [.agg (lift false (a13D p))] (bv true):=by
 refine qI Tryz.func6 E Tryz.ntmps6 zL fun c hL hQ hDD=>(qd (qb (qt E E zD (q6 1 E E E) E (zX E (zK (qd ?_))))));refine qb (zA E (qF E qbp E E E E) (qH (avs:=[_,_]) true E E E zD qdg E E (qiJ p hp 4 zO) E E (zX E (zK (qn (zI hL (qg E qh) ?_ ?_))))))
 ·rfl
 exact ⟨rfl,rfl⟩
theorem qpt (p:qhQ)(hp:wf13 p):PF 7 [.agg (lift false (a13D p))] (bv true):=by
 refine qI Tryz.func7 E Tryz.ntmps7 zL fun c hL hQ hDD=>(qd (qb (qt E E zD (q6 1 E E E) E (zX E (zK (qd ?_))))));refine qb (zA E (qF E qbp E E E E) (qH (avs:=[_,_]) true E E E zD qdg E E (qiJ p hp 6 zO) E E (zX E (zK (qn (zI hL (qg E qh) ?_ ?_))))))
 ·rfl
 exact ⟨rfl,rfl⟩
end Go.Proofs.YtpgceiijoedppaaGreat
namespace Go.Proofs.YtpgceiijoedppaaGreat
open Go Go.RowKit
theorem rdr_sp (w:World)(n:Nat):Rdr Tryz.prog w n 53 2 (fun p:Int×Int=>[.imm (.int .i64 p.1),.imm (.int .i64 p.2)]) (fun p=>i64 p.1∧i64 p.2):=by
 refine Rdr.map (fun x:Int×Int×Unit=>(x.1,x.2.1)) (Rdr.struct qoK (fun _=>rfl) fun m hm=>RdrF.cons (Rdr.int qfR) (RdrF.cons (Rdr.int qfR) RdrF.nil)) (fun _=>rfl) ?_ ?_
 ·rintro ⟨a,b,_⟩ _;rfl
 ·rintro ⟨a,b,_⟩ ⟨h1,h2,_⟩;exact ⟨h1,h2⟩
theorem rdr_ft (w:World)(n:Nat):Rdr Tryz.prog w n 69 6 ftD Ft.wf:=by
 refine Rdr.map (fun x:Tm×(Int×Int)×Unit=>⟨x.1,x.2.1.1,x.2.1.2⟩) (Rdr.struct qoM (fun _=>rfl) fun m hm=>RdrF.cons (qrQ w m) (RdrF.cons (rdr_sp w m) RdrF.nil)) (fun _=>rfl) ?_ ?_
 ·rintro ⟨a,b,_⟩ _;rfl
 ·rintro ⟨a,b,_⟩ ⟨h1,h2,_⟩;exact ⟨h1,h2⟩
theorem rdr_kp (w:World)(n:Nat):Rdr Tryz.prog w n 71 7 kpD Kp.wf:=by
 refine Rdr.map (fun x:Int×Ft×Unit=>⟨x.1,x.2.1⟩) (Rdr.struct qoL (fun _=>rfl) fun m hm=>RdrF.cons (Rdr.int qfR) (RdrF.cons (rdr_ft w m) RdrF.nil)) (fun _=>rfl) ?_ ?_
 ·rintro ⟨a,b,_⟩ _;rfl
 ·rintro ⟨a,b,_⟩ ⟨h1,h2,_⟩;exact ⟨h1,h2⟩
theorem rdr_kps (w:World)(n:Nat):Rdr Tryz.prog w n 22 1 (fun l:List Kp=>[.sl 7 (kpDs l)]) (fun l=>qbt l∧∀ g∈l,g.wf):=by
 refine Rdr.map id (Rdr.slice qaf zD fun k _=>rdr_kp w k) (fun _=>rfl) (fun _ _=>rfl) ?_
 rintro l ⟨h1,h2⟩
 rw [qpm] at h1
 exact ⟨qfC h1 zD,h2⟩
theorem rdr_ints (w:World)(n:Nat):Rdr Tryz.prog w n 29 1 (fun l:List Int=>[.sl 1 (inDs l)]) (fun l=>qbt l∧∀ x∈l,i64 x):=by
 refine Rdr.map id (Rdr.slice qaW zD fun k _=>Rdr.int qfR) (fun _=>rfl) (fun _ _=>rfl) ?_
 rintro l ⟨h1,h2⟩
 rw [by_int] at h1
 exact ⟨qfC h1 zD,h2⟩
theorem Pt.wfs_of {l:List Pt}(h:∀ t,t∈l→t.wf):Pt.wfs l:=Pt.wfs_iff.2 h
theorem rdr_pt (w:World):∀ n:Nat,Rdr Tryz.prog w n 36 9 ptD Pt.wf:=by
 intro n
 induction n using Nat.strongRecOn with
 | _ n ih=>
   refine Rdr.map (fun x:Int×Tm×Int×List Pt×List Pt×List Pt×Unit=>⟨x.1,x.2.1,x.2.2.1,x.2.2.2.1,x.2.2.2.2.1,x.2.2.2.2.2.1⟩) (Rdr.struct qlo (fun _=>rfl) fun m hm=>RdrF.cons (Rdr.int qfR) (RdrF.cons (qrQ w m) (RdrF.cons (Rdr.int qfR) (RdrF.cons (Rdr.slice qy zD fun k hk=>ih k zO) (RdrF.cons (Rdr.slice qy zD fun k hk=>ih k zO) (RdrF.cons (Rdr.slice qy zD fun k hk=>ih k zO) RdrF.nil)))))) qqV ?_ ?_
   ·rintro ⟨a,b,c,l,r,q,_⟩ _
    simp only [ptD,qd1];rfl
   ·rintro ⟨a,b,c,l,r,q,_⟩ ⟨h1,h2,h3,⟨h4,h5⟩,⟨h6,h7⟩,⟨h8,h9⟩,_⟩
    rw [qhZ] at h4 h6 h8
    exact ⟨h1,h2,h3,⟨qfC h4 zD,Pt.wfs_of h5⟩,⟨qfC h6 zD,Pt.wfs_of h7⟩,qfC h8 zD,Pt.wfs_of h9⟩
theorem rdr_mt (w:World)(n:Nat):Rdr Tryz.prog w n 55 4 mtD Mt.wf:=by
 refine Rdr.map (fun x:List Bd×(Int×Int)×List Int×Unit=>⟨x.1,x.2.1.1,x.2.1.2,x.2.2.1⟩) (Rdr.struct qnz (fun _=>rfl) fun m hm=>RdrF.cons (rdr_bds w m) (RdrF.cons (rdr_sp w m) (RdrF.cons (rdr_ints w m) RdrF.nil))) (fun _=>rfl) ?_ ?_
 ·rintro ⟨a,b,c,_⟩ _;rfl
 ·rintro ⟨a,b,c,_⟩ ⟨h1,h2,h3,_⟩;exact ⟨h1,h2,h3⟩
theorem rdr_mts (w:World)(n:Nat):Rdr Tryz.prog w n 24 1 (fun l:List Mt=>[.sl 4 (mtDs l)]) (fun l=>qbt l∧∀ g∈l,g.wf):=by
 refine Rdr.map id (Rdr.slice qw zD fun k _=>rdr_mt w k) (fun _=>rfl) (fun _ _=>rfl) ?_
 rintro l ⟨h1,h2⟩
 rw [qon] at h1
 exact ⟨qfC h1 zD,h2⟩
theorem rdr_ptsw (w:World)(n:Nat):Rdr Tryz.prog w n 23 1 (fun l:List Pt=>[.sl 9 (ptDs l)]) (fun l=>l.length*144≤140737488351232∧qbt l∧Pt.wfs l):=by
 refine Rdr.map id (Rdr.slice qy zD fun k _=>rdr_pt w k) (fun _=>rfl) ?_ ?_
 ·intro l _;simp only [id,qd1]
 ·rintro l ⟨h1,h2⟩
  rw [qhZ] at h1
  exact ⟨h1,qfC h1 zD,Pt.wfs_of h2⟩
theorem qj7 (w:World)(n:Nat):Rdr Tryz.prog w n 26 4 a13D wf13:=by
 refine Rdr.map (fun x:List Kp×List Pt×Int×List Mt×Unit=>⟨x.1,x.2.1,x.2.2.1,x.2.2.2.1⟩) (Rdr.struct qcn (fun _=>rfl) fun m hm=>RdrF.cons (rdr_kps w m) (RdrF.cons (rdr_ptsw w m) (RdrF.cons (Rdr.int qfR) (RdrF.cons (rdr_mts w m) RdrF.nil)))) (fun _=>rfl) ?_ ?_
 ·rintro ⟨a,b,c,d,_⟩ _;rfl
 ·rintro ⟨a,b,c,d,_⟩ ⟨h1,⟨h0,h2⟩,h3,h4,_⟩;exact ⟨h0,h1,h2,h3,h4⟩
end Go.Proofs.YtpgceiijoedppaaGreat