/- Part 23 of the proof: Fy, Fz, Ga, Gb, Gc, Gd, Rdb, Gf, Gg. -/
import Derived.Test.YtpgceiijoedppaaGreatC22
set_option linter.unusedVariables false
set_option linter.unusedSimpArgs false
set_option maxRecDepth 8000
namespace Go.Proofs.YtpgceiijoedppaaGreat
open Go
variable {k:Nat}{l:List Bd}{x y:ByteArray}{α:Type}
def prD (p:Tm×Tm):List D:=tmD p.1++tmD p.2
def prDs (l:List (Tm×Tm)):List (List D):=l.map prD
abbrev prA (l:List (Tm×Tm)):AV:=.dat false 8 (prDs l)
theorem qkF (l:List (Tm×Tm)):(prDs l).length=l.length:=by simp [prDs]
theorem prDs_get {l:List (Tm×Tm)}{i:Nat}{p:Tm×Tm}(h:l[i]?=some p):(prDs l)[i]?=some (prD p):=by simp [prDs,h]
theorem qrW (l:List (Tm×Tm))(p:Tm×Tm):prDs (l++[p])=prDs l++[prD p]:=by simp [prDs]
def qdZ (a b:Tm):Bool:=decide (a.kind=b.kind)&&decide (a.name=b.name)&&decide (a.n=b.n)&&decide (a.args.length=b.args.length)
def qjM (a b:Tm):List (Tm×Tm):=if qdZ a b=true then a.args.zip b.args else []
theorem zip_snoc {β:Type}{l:List α}{m:List β}{u:α}{v:β}(hu:l[k]?=some u)(hv:m[k]?=some v):(l.zip m).take (k+1)=(l.zip m).take k++[(u,v)]:=by
 refine qas ?_
 rw [List.getElem?_zip_eq_some];exact ⟨hu,hv⟩
theorem args_ok (a b:Tm)(ha:a.wf)(hb:b.wf)(ha0:a.args.length≤1000):PF 259 [tmA false a,tmA false b] (.tup [prA (qjM a b),bv (qdZ a b)]):=by
 have hla:=qaY a.args
 have hlb:=qaY b.args
 have hal:=ha.2.2.2.1
 have hbl:=hb.2.2.2.1
 refine qh2 (Post:=fun r O=>(qdZ a b=false∧r=.tup [.imm (.slice none 0 0),bv false]∨r=.tup [prA (qjM a b),bv (qdZ a b)])∧O=[]) ?_ (fun r O' h=>by
  obtain ⟨⟨h1,rfl⟩|rfl,rfl⟩:=h
  ·exact ⟨_,.tup (.cons (.nil (f:=false) (k:=8)) (.cons .refl .nil)),by rw [qjM,if_neg (by simp [h1]),h1];rfl,rfl⟩
  ·exact ⟨_,.refl,rfl,rfl⟩)
 refine qI Tryz.func259 E Tryz.ntmps259 zL fun c hL hQ hDD=>(qd (qb (qt E E zD (q6 2 E E E) E (qt E E zD (q6 3 E E E) E (zX E (zX E (qc ?_)))))));refine qa (qd (qd (qb (zA E (qe E qaL E) (zA E (qi E qQ E E E E E) (zA E (qe E qaL E) (zA E (qi E qQ E E E E E) (zA E (qj E E E E) (zX E (qE 12 E (fun g12=>?_) (fun g12=>?_)))))))))))
 ·simp only[↓cqA,cqB]at g12
  refine zY E (zY E (zY E (zY E (zY E (zA E (qk E E E) (zX E (zY E (zY E (zY E (zY E (zY E (zA E (qk E E E) (zX E (zY E (zY E (zY E (zY E ?_)))))))))))))))))
  refine zY E (zY E (zY E (zA E (qk E E E) (zK (qa2 E (qd ?_))))));refine qb (zX E (zX E (zK (qn (qm (zI hL (qg E (qg E qh)) ?_ ?_))))))
  ·rfl
  first|exact ⟨.inl ⟨by simp_all [qdZ]<;>omega,rfl⟩,rfl⟩|exact ⟨.inr (by rw [List.take_of_length_le (by omega),qjM,if_pos hab,hab];rfl),rfl⟩
 simp only[↓cqA,cqB]at g12
 refine zZ E (qe E qay E) (zZ E (qi E qar E E E E E) (zZ E (qe E qay E) (zZ E (qi E qar E E E E E) (zZ E (qcH E E E E) (zA E (qk E E E) (zX E (qE 19 E (fun g19=>?_) (fun g19=>?_))))))))
 ·simp only[↓cqA,cqB]at g19
  refine zY E (zY E (zY E (zY E (zY E (zA E (qk E E E) (zX E (zY E (zY E (zY E (zY E (zY E ?_)))))))))))
  refine zY E (zY E (zA E (qk E E E) (zK (qa2 E (qd (qb ?_))))));refine zX E (zX E (zK (qn (qm (zI hL (qg E (qg E qh)) ?_ ?_)))))
  ·rfl
  first|exact ⟨.inl ⟨by simp_all [qdZ]<;>omega,rfl⟩,rfl⟩|exact ⟨.inr (by rw [List.take_of_length_le (by omega),qjM,if_pos hab,hab];rfl),rfl⟩
 simp only[↓cqA,cqB]at g19
 refine zZ E (qe E qbb E) (zZ E (qi E qQ E E E E E) (zZ E (qe E qbb E) (zZ E (qi E qQ E E E E E) (zZ E (qj E E E E) (zA E (qk E E E) (zX E (qE 26 E (fun g26=>?_) (fun g26=>?_))))))))
 ·simp only[↓cqA,cqB]at g26
  refine zY E (zY E (zY E (zY E (zY E (zY E ?_)))))
  refine zY E (zA E (qk E E E) (zK (qa2 E (qd (qb (zX E ?_))))));refine zX E (zK (qn (qm (zI hL (qg E (qg E qh)) ?_ ?_))))
  ·rfl
  first|exact ⟨.inl ⟨by simp_all [qdZ]<;>omega,rfl⟩,rfl⟩|exact ⟨.inr (by rw [List.take_of_length_le (by omega),qjM,if_pos hab,hab];rfl),rfl⟩
 simp only[↓cqA,cqB]at g26
 refine zZ E (qe E qaa E) (zZ E (qi E q9 E E E E E) (zZ E (qu E qN E) (zZ E (qe E qaa E) (zZ E (qi E q9 E E E E E) (zZ E (qu E qN E) (zZ E (qj E E E E) (zA E (qk E E E) (zK (qo E (fun c0=>?_) (fun c0=>?_))))))))))
 ·simp only[↓cqA,cqB]at c0
  refine qd (qb (zX E (zX E (zK (qn (qm (zI hL (qg E (qg E qh)) ?_ ?_)))))))
  ·rfl
  first|exact ⟨.inl ⟨by simp_all [qdZ]<;>omega,rfl⟩,rfl⟩|exact ⟨.inr (by rw [List.take_of_length_le (by omega),qjM,if_pos hab,hab];rfl),rfl⟩
 simp only[↓cqA,cqB]at c0
 have hab:qdZ a b=true:=by simp_all [qdZ]<;>omega
 have hlen:a.args.length=b.args.length:=by simp only [qdZ,Bool.and_eq_true,decide_eq_true_eq] at hab;exact hab.2
 have hzl:(a.args.zip b.args).length=a.args.length:=by rw [List.length_zip];omega
 refine qr (qa (qd (qd (qb (zA E (qe E qaa E) (zA E (qi E q9 E E E E E) (zA E (qu E qN E) ?_)))))));refine zX E (zK (qv (qac (a.args.length) (fun k=>k≤a.args.length) (fun k=>⟨[(2,.ptr 2 0),(3,.ptr 3 0),(4,.row 4),(37,iv (tmDs a.args).length),(38,iv (k:Int))],[(2,.box (lift false (tmD a))),(3,.box (lift false (tmD b))),(4,.rowd 277 8 false (prDs ((a.args.zip b.args).take k)))]⟩) zO ?_ (fun k hk hp=>?_))))
 ·exact Sub.trans (qam (t:=4) (l:=4) 277 8 false E E) (qC (zC E (zC E (zC E (zC E (zC E SubT.nil))))) (SubO.cons (qU E (by rfl)) (SubO.cons (qU E (by rfl)) (SubO.cons (qU E (by rfl)) SubO.nil))) E E (noL' (noL hL) _))
 have hl2:(prDs ((a.args.zip b.args).take k)).length≤a.args.length:=by rw [qkF,List.length_take];omega
 refine qd (qb (zA E (qj E E E E) (zK (qd (qo E (fun c1=>?_) (fun c1=>?_))))))
 ·simp only[↓cqA,cqB]at c1
  obtain ⟨u,hu⟩:=qM (l:=a.args) (k:=k) (by omega)
  obtain ⟨v,hv⟩:=qM (l:=b.args) (k:=k) (by omega)
  refine qr (qa (qd (qv (qd (qb (zX E (zX E ?_)))))));refine zK (qX 13 mixed E E E E (zU E (ql (.inl E) E) (zU E (qe E qaa E) (zU E (qi E q9 E E E E E) (zU E (ql (.inl E) E) (zU E (qp E qN E E zO (qbP hu)) (zU E (qD E qz E E) (zU E (qe E qaa E) (zU E (qi E q9 E E E E E) (zU E (ql (.inl E) E) ?_))))))))))
  refine zU E (qp E qN E E zO (qbP hv)) (zU E (qD E qz E E) (zU E (qmx E qgj E (show arB Tryz.prog 277 2 34 4=true by kernel_rfl) E E) (qhr E zD (.run E (qaj 53 E qed qgj E E zD zD zD E E E)) (qaq ⟨rfl,rfl,?_⟩))))
  refine qbW E E zD (qaU 54 qkk E E E E E E E E (noL hL _) zO E) E (zX E (qc (qR (qa (qb (zA E (qO E E E zO) (zX E ?_)))))));refine zK ?_;refine ⟨?_,?_,?_⟩
  ·omega
  ·omega
  exact Sub.trans (qZ 54 4 (noL hL _) (noL hL _)) (qC (zC E (zC E (zC E (zC E (zC E SubT.nil))))) (SubO.cons (qU E (by rfl)) (SubO.cons (qU E (by rfl)) (SubO.cons (qU E (by rw [zip_snoc hu hv,qrW];rfl)) SubO.nil))) E E (noL' (noL hL) _))
 simp only[↓cqA,cqB]at c1
 refine qV (qq (qq (qad ?_)));refine qa (qd (qbI (qaG (l:=4) E zD (noL hL _) E E) (qb (zX E (zX E (zX E (qc ?_)))))));refine qa (qn (zI hL (qg E (qg E qh)) ?_ ?_))
 ·rfl
 first|exact ⟨.inl ⟨by simp_all [qdZ]<;>omega,rfl⟩,rfl⟩|exact ⟨.inr (by rw [List.take_of_length_le (by omega),qjM,if_pos hab,hab];rfl),rfl⟩
theorem qf7 {rs:List (List α)}{es:List α}(h:rs[k]?=some es):(rs.take (k+1)).flatten=(rs.take k).flatten++es:=by rw [qas h];simp
theorem qfK (rs:List (List α))(k:Nat):(rs.take k).flatten.length≤rs.flatten.length:=by
 have:=congrArg (fun l:List (List α)=>l.flatten.length) (List.take_append_drop k rs)
 simp only [List.flatten_append,List.length_append] at this
 omega
def oneR (l:List Bd)(p:Tm×Tm):List Bd×List (Tm×Tm)×Int:=
 if qgB l p.1≠0 then ([],[],qgB l p.1) else
 if qgB l p.2≠0 then ([],[],qgB l p.2) else
 if (putT l p.1).kind=1∧(putT l p.2).kind=1∧(putT l p.1).name=(putT l p.2).name then (l,[],0) else
 if (putT l p.1).kind=1∧((putT l p.2).kind≠1∨ltS (putT l p.2).name (putT l p.1).name=true) then (qg3 l (putT l p.1).name (putT l p.2),[],qgp l (putT l p.1).name (putT l p.2)) else
 if (putT l p.2).kind=1 then (qg3 l (putT l p.2).name (putT l p.1),[],qgp l (putT l p.2).name (putT l p.1)) else
 if qdZ (putT l p.1) (putT l p.2)=true then (l,qjM (putT l p.1) (putT l p.2),0) else ([],[],3)
mutual
def Tm.sub (g:ByteArray→Tm):Tm→Tm
 | ⟨k,nm,n,l0⟩=>if k=1 then g nm else ⟨k,nm,n,Tm.subs g l0⟩
def Tm.subs (g:ByteArray→Tm):List Tm→List Tm
 | []=>[]
 | t::ts=>Tm.sub g t::Tm.subs g ts
end
mutual
def Tm.occ (y:ByteArray):Tm→Prop
 | ⟨k,nm,_,l0⟩=>(k=1∧nm=y)∨Tm.occs y l0
def Tm.occs (y:ByteArray):List Tm→Prop
 | []=>False
 | t::ts=>Tm.occ y t∨Tm.occs y ts
end
mutual
def Tm.sz:Tm→Nat
 | ⟨_,_,_,l0⟩=>1+Tm.szs l0
def Tm.szs:List Tm→Nat
 | []=>0
 | t::ts=>Tm.sz t+Tm.szs ts
end
mutual
def Tm.shp:Tm→Prop
 | ⟨k,nm,n,l0⟩=>((k=1∧varB nm=true∧n=0∧l0=[])∨(k=2∧numB n=true∧nm.size=0∧l0=[])∨(k=3∧qnP nm=true∧n=0∧l0.length≤4))∧Tm.shps l0
def Tm.shps:List Tm→Prop
 | []=>True
 | t::ts=>Tm.shp t∧Tm.shps ts
end
theorem Tm.subs_map (g:ByteArray→Tm):∀ l,Tm.subs g l=l.map (Tm.sub g)
 | []=>by rw [Tm.subs];rfl
 | t::ts=>by rw [Tm.subs,Tm.subs_map g ts];rfl
theorem Tm.sub_eq (g:ByteArray→Tm)(t:Tm):t.sub g=if t.kind=1 then g t.name else ⟨t.kind,t.name,t.n,t.args.map (Tm.sub g)⟩:=by
 cases t;simp only [Tm.sub,Tm.subs_map]
theorem Tm.occs_iff (y:ByteArray):∀ l,Tm.occs y l↔∃ u∈l,Tm.occ y u
 | []=>by simp [Tm.occs]
 | t::ts=>by simp [Tm.occs,Tm.occs_iff y ts]
theorem Tm.occ_iff (y:ByteArray)(t:Tm):t.occ y↔(t.kind=1∧t.name=y)∨∃ u∈t.args,Tm.occ y u:=by
 cases t;simp only [Tm.occ,Tm.occs_iff]
theorem Tm.szs_sum:∀ l,Tm.szs l=(l.map Tm.sz).sum
 | []=>by simp [Tm.szs]
 | t::ts=>by simp [Tm.szs,Tm.szs_sum ts]
theorem Tm.sz_eq (t:Tm):t.sz=1+(t.args.map Tm.sz).sum:=by cases t;simp only [Tm.sz,Tm.szs_sum]
theorem Tm.sz_pos (t:Tm):1≤t.sz:=by rw [Tm.sz_eq];omega
theorem Tm.shps_iff:∀ l,Tm.shps l↔∀ u∈l,Tm.shp u
 | []=>by simp [Tm.shps]
 | t::ts=>by simp [Tm.shps,Tm.shps_iff ts]
def Tm.top (t:Tm):Prop:=(t.kind=1∧varB t.name=true∧t.n=0∧t.args=[])∨(t.kind=2∧numB t.n=true∧t.name.size=0∧t.args=[])∨(t.kind=3∧qnP t.name=true∧t.n=0∧t.args.length≤4)
theorem Tm.shp_iff (t:Tm):t.shp↔t.top∧∀ u∈t.args,Tm.shp u:=by cases t;simp only [Tm.shp,Tm.shps_iff,Tm.top]
theorem Tm.ind {P:Tm→Prop}(h:∀ t:Tm,(∀ u∈t.args,P u)→P t)(t:Tm):P t:=
 Tm.rec (motive_1:=P) (motive_2:=fun ts=>∀ u∈ts,P u) (fun k nm n l0 ih=>h ⟨k,nm,n,l0⟩ ih) (fun u hu=>by cases hu) (fun t ts h1 h2 u hu=>by
  rcases List.mem_cons.1 hu with e|hu
  ·exact e▸h1
  ·exact h2 u hu) t
theorem Tm.shp.arg {t u:Tm}(h:t.shp)(hu:u∈t.args):u.shp:=((Tm.shp_iff t).1 h).2 u hu
theorem Tm.shp.var {t:Tm}(h:t.shp)(hk:t.kind=1):t=⟨1,t.name,0,[]⟩∧varB t.name=true:=by
 have:=((Tm.shp_iff t).1 h).1
 cases t
 simp only [Tm.top] at this hk ⊢
 subst hk
 rcases this with ⟨_,h2,h3,h4⟩|⟨h1,_⟩|⟨h1,_⟩
 ·subst h3 h4;exact ⟨rfl,h2⟩
 ·cases h1
 ·cases h1
theorem qpG (g:ByteArray→Tm):∀ (d:Nat) (t:Tm),dle d t→qfu g d t=t.sub g
 | 0,t,h=>h.elim
 | d+1,t,h=>by
   rw [qfu,Tm.sub_eq]
   split
   ·rfl
   ·congr 1
    exact List.map_congr_left fun u hu=>qpG g d u (h u hu)
theorem qiD (y:ByteArray):∀ (d:Nat) (t:Tm),dle d t→(y∈qdW d t []↔t.occ y)
 | 0,t,h=>h.elim
 | d+1,t,h=>by
   rw [qdW,qha d y (qiE d y),Tm.occ_iff]
   have e:(∃ u,u∈t.args∧y∈qdW d u [])↔∃ u∈t.args,Tm.occ y u:=by
    constructor
    ·rintro ⟨u,hu,hy⟩;exact ⟨u,hu,(qiD y d u (h u hu)).1 hy⟩
    ·rintro ⟨u,hu,hy⟩;exact ⟨u,hu,(qiD y d u (h u hu)).2 hy⟩
   rw [e]
   split
   ·rename_i hk;simp [hk,eq_comm]
   ·rename_i hk;simp [hk]
theorem qm4:∀ (d e:Nat) (t:Tm),d≤e→dle d t→dle e t
 | 0,_,t,_,h=>h.elim
 | d+1,0,t,h,_=>by omega
 | d+1,e+1,t,h,hd=>fun u hu=>qm4 d e u (by omega) (hd u hu)
theorem qqa (d:Nat)(ih:∀ (t:Tm) (n:Int),0≤n→(mayS d t n).1=true→t.shp∧dle d t∧(mayS d t n).2=n-t.sz∧(t.sz:Int)≤n):∀ (l:List Tm) (n:Int),0≤n→(mayL (mayS d) l n).1=true→(∀ u∈l,u.shp∧dle d u)∧(mayL (mayS d) l n).2=n-((l.map Tm.sz).sum:Nat)∧(((l.map Tm.sz).sum:Nat):Int)≤n
 | [],n,hn,_=>by simp [mayL];omega
 | a::l,n,hn,h=>by
   simp only [mayL] at h ⊢
   split at h
   ·rename_i hb
    obtain ⟨h1,h2,h3,h4⟩:=ih a n hn hb
    obtain ⟨h5,h6,h7⟩:=qqa d ih l (mayS d a n).2 (by omega) h
    rw [if_pos hb]
    refine ⟨fun u hu=>?_,?_,?_⟩
    ·rcases List.mem_cons.1 hu with rfl|hu
     ·exact ⟨h1,h2⟩
     ·exact h5 u hu
    ·rw [h6,h3];simp only [List.map_cons,List.sum_cons];omega
    ·simp only [List.map_cons,List.sum_cons];omega
   ·cases h
theorem qp6:∀ (d:Nat) (t:Tm) (n:Int),0≤n→(mayS d t n).1=true→t.shp∧dle d t∧(mayS d t n).2=n-t.sz∧(t.sz:Int)≤n
 | 0,t,n,_,h=>by simp [mayS] at h
 | d+1,t,n,hn0,h=>by
   rw [Tm.shp_iff,Tm.sz_eq]
   have e0:∀ l:List Tm,l.length=0→l=[]:=fun l h=>List.eq_nil_of_length_eq_zero h
   simp only [mayS] at h ⊢
   split at h
   ·cases h
   rename_i hn
   rw [if_neg hn]
   split at h
   ·rename_i hk
    rw [if_pos hk]
    simp only [Bool.and_eq_true,decide_eq_true_eq] at h
    have:=e0 _ h.2
    refine ⟨⟨.inl ⟨hk,h.1.1,h.1.2,this⟩,by simp [this]⟩,fun u hu=>by simp [this] at hu,?_,?_⟩<;>simp [this]<;>omega
   rename_i hk1
   rw [if_neg hk1]
   split at h
   ·rename_i hk
    rw [if_pos hk]
    simp only [Bool.and_eq_true,decide_eq_true_eq] at h
    have:=e0 _ h.2
    refine ⟨⟨.inr (.inl ⟨hk,h.1.1,h.1.2,this⟩),by simp [this]⟩,fun u hu=>by simp [this] at hu,?_,?_⟩<;>simp [this]<;>omega
   rename_i hk2
   rw [if_neg hk2]
   split at h
   ·rename_i hk
    rw [if_pos hk]
    split at h
    ·rename_i hc
     rw [if_pos hc]
     obtain ⟨h5,h6,h7⟩:=qqa d (qp6 d) t.args (n-1) (by omega) h
     simp only [Bool.and_eq_true,decide_eq_true_eq] at hc
     refine ⟨⟨.inr (.inr ⟨hk,hc.1.1,hc.1.2,hc.2⟩),fun u hu=>(h5 u hu).1⟩,fun u hu=>(h5 u hu).2,?_,?_⟩
     ·rw [h6];omega
     ·omega
    ·cases h
   ·cases h
theorem qqd (d:Nat)(ih:∀ (t:Tm) (n:Int),t.shp→dle d t→(t.sz:Int)≤n→mayS d t n=(true,n-t.sz)):∀ (l:List Tm) (n:Int),(∀ u∈l,u.shp∧dle d u)→(((l.map Tm.sz).sum:Nat):Int)≤n→mayL (mayS d) l n=(true,n-((l.map Tm.sz).sum:Nat))
 | [],n,_,_=>by simp [mayL]
 | a::l,n,h,hn=>by
   simp only [List.map_cons,List.sum_cons] at hn ⊢
   have h1:=ih a n (h a (by simp)).1 (h a (by simp)).2 (by omega)
   have h2:=qqd d ih l (n-a.sz) (fun u hu=>h u (by simp [hu])) (by omega)
   simp only [mayL,h1,if_true,h2]
   congr 1;omega
theorem qp8:∀ (d:Nat) (t:Tm) (n:Int),t.shp→dle d t→(t.sz:Int)≤n→mayS d t n=(true,n-t.sz)
 | 0,t,n,_,h,_=>h.elim
 | d+1,t,n,hs,hd,hn=>by
   rw [Tm.shp_iff] at hs
   rw [Tm.sz_eq] at hn ⊢
   obtain ⟨ht,hs⟩:=hs
   simp only [mayS]
   rw [if_neg (by omega)]
   rcases ht with ⟨h1,h2,h3,h4⟩|⟨h1,h2,h3,h4⟩|⟨h1,h2,h3,h4⟩
   ·rw [if_pos h1,h2,h3,h4];simp
   ·rw [if_neg (by omega),if_pos h1,h2,h3,h4];simp
   ·rw [if_neg (by omega),if_neg (by omega),if_pos h1,if_pos (by simp [h2,h3,h4])]
    rw [qqd d (qp8 d) t.args (n-1) (fun u hu=>⟨hs u hu,hd u hu⟩) (by omega)]
    congr 1;omega
theorem qfA (t:Tm):mayT t=true↔t.shp∧dle 5 t∧t.sz≤24:=by
 constructor
 ·intro h
  obtain ⟨h1,h2,h3,h4⟩:=qp6 5 t 24 (by omega) h
  exact ⟨h1,h2,by omega⟩
 ·rintro ⟨h1,h2,h3⟩
  show (mayS 5 t 24).1=true
  rw [qp8 5 t 24 h1 h2 (by omega)]
def varT (s:ByteArray):Tm:=⟨1,s,0,[]⟩
theorem qkn {g h:ByteArray→Tm}(t:Tm):(∀ y,t.occ y→g y=h y)→t.sub g=t.sub h:=by
 refine Tm.ind (P:=fun t=>(∀ y,t.occ y→g y=h y)→t.sub g=t.sub h) (fun t ih hy=>?_) t
 rw [Tm.sub_eq,Tm.sub_eq]
 split
 ·rename_i hk;exact hy _ ((Tm.occ_iff _ _).2 (.inl ⟨hk,rfl⟩))
 ·congr 1
  exact List.map_congr_left fun u hu=>ih u hu fun y hu2=>hy y ((Tm.occ_iff _ _).2 (.inr ⟨u,hu,hu2⟩))
theorem sub_varT {t:Tm}(hs:t.shp):t.sub varT=t:=by
 refine Tm.ind (P:=fun t=>t.shp→t.sub varT=t) (fun t ih hs=>?_) t hs
 rw [Tm.sub_eq]
 split
 ·rename_i hk;rw [(hs.var hk).1];rfl
 ·have:t.args.map (Tm.sub varT)=t.args:=by
   have h2:t.args.map (Tm.sub varT)=t.args.map id:=List.map_congr_left fun u hu=>ih u hu (hs.arg hu)
   rw [h2,List.map_id]
  rw [this]
  cases t;rfl
theorem sub_id {g:ByteArray→Tm}{t:Tm}(hs:t.shp)(h:∀ y,t.occ y→g y=varT y):t.sub g=t:=by
 rw [qkn t h,sub_varT hs]
theorem qoZ (g:ByteArray→Tm)(y:ByteArray)(t:Tm)(hs:t.shp):(t.sub g).occ y↔∃ x,t.occ x∧(g x).occ y:=by
 refine Tm.ind (P:=fun t=>t.shp→((t.sub g).occ y↔∃ x,t.occ x∧(g x).occ y)) (fun t ih hs=>?_) t hs
 rw [Tm.sub_eq]
 split
 ·rename_i hk
  constructor
  ·intro h;exact ⟨t.name,(Tm.occ_iff _ _).2 (.inl ⟨hk,rfl⟩),h⟩
  ·rintro ⟨x,hx,h⟩
   rw [Tm.occ_iff] at hx
   rcases hx with ⟨_,rfl⟩|⟨u,hu,_⟩
   ·exact h
   ·rw [(hs.var hk).1] at hu;cases hu
 ·rename_i hk
  rw [Tm.occ_iff]
  constructor
  ·rintro (⟨h,_⟩|⟨u,hu,h⟩)
   ·exact absurd h hk
   ·obtain ⟨v,hv,rfl⟩:=List.mem_map.1 hu
    obtain ⟨x,hx,h2⟩:=(ih v hv (hs.arg hv)).1 h
    exact ⟨x,(Tm.occ_iff _ _).2 (.inr ⟨v,hv,hx⟩),h2⟩
  ·rintro ⟨x,hx,h⟩
   rw [Tm.occ_iff] at hx
   rcases hx with ⟨h,_⟩|⟨u,hu,h2⟩
   ·exact absurd h hk
   ·exact .inr ⟨u.sub g,List.mem_map.2 ⟨u,hu,rfl⟩,(ih u hu (hs.arg hu)).2 ⟨x,h2,h⟩⟩
theorem shp_sub {g:ByteArray→Tm}{t:Tm}(hs:t.shp)(h:∀ y,t.occ y→(g y).shp):(t.sub g).shp:=by
 refine Tm.ind (P:=fun t=>t.shp→(∀ y,t.occ y→(g y).shp)→(t.sub g).shp) (fun t ih hs h=>?_) t hs h
 rw [Tm.sub_eq]
 split
 ·rename_i hk;exact h _ ((Tm.occ_iff _ _).2 (.inl ⟨hk,rfl⟩))
 ·rename_i hk
  rw [Tm.shp_iff] at hs ⊢
  refine ⟨?_,fun u hu=>?_⟩
  ·have:=hs.1
   simp only [Tm.top,List.length_map,List.map_eq_nil_iff] at this ⊢
   exact this
  ·obtain ⟨v,hv,rfl⟩:=List.mem_map.1 hu
   exact ih v hv (hs.2 v hv) fun y hy=>h y ((Tm.occ_iff _ _).2 (.inr ⟨v,hv,hy⟩))
theorem sz_occ (g:ByteArray→Tm){t:Tm}(hs:t.shp)(h:t.occ x):(g x).sz≤(t.sub g).sz∧(t.kind≠1→(g x).sz<(t.sub g).sz):=by
 refine Tm.ind (P:=fun t=>t.shp→t.occ x→(g x).sz≤(t.sub g).sz∧(t.kind≠1→(g x).sz<(t.sub g).sz)) (fun t ih hs h=>?_) t hs h
 rw [Tm.occ_iff] at h
 rw [Tm.sub_eq]
 split
 ·rename_i hk
  refine ⟨?_,fun h2=>absurd hk h2⟩
  rcases h with ⟨_,rfl⟩|⟨u,hu,_⟩
  ·exact Nat.le_refl _
  ·rw [(hs.var hk).1] at hu;cases hu
 ·rename_i hk
  rcases h with ⟨h,_⟩|⟨u,hu,h⟩
  ·exact absurd h hk
  ·have h1:=(ih u hu (hs.arg hu) h).1
   have h2:(u.sub g).sz<(Tm.mk t.kind t.name t.n (t.args.map (Tm.sub g))).sz:=by
    rw [Tm.sz_eq (Tm.mk _ _ _ _)]
    simp only [List.map_map]
    obtain ⟨i,hi⟩:=List.getElem?_of_mem hu
    have:=qfi (l:=t.args) (k:=i) (u:=u) (Tm.sz∘Tm.sub g) hi
    simp only [Function.comp] at this ⊢
    omega
   exact ⟨by omega,fun _=>by omega⟩
structure GB (l:List Bd):Prop where
 len:l.length≤16
 ris:RisB l
 el:∀ b∈l,b.wf∧varB b.name=true∧mayT b.t=true
 idem:∀ b∈l,∀ y,b.t.occ y→hasB l y=false
theorem GB.bok (h:GB l):BOk l:=⟨h.ris,by have:=h.len;omega,fun b hb=>⟨(h.el b hb).1,(h.el b hb).2.2⟩⟩
theorem qfb (l:List Bd)(y:ByteArray):hasB l y=true↔∃ b∈l,b.name=y:=by simp [hasB]
theorem qsn (l:List Bd)(y:ByteArray):hasB l y=false↔∀ b∈l,b.name≠y:=by simp [hasB]
theorem qbN {t:Tm}(h:mayT t=true):dle 5 t:=((qfA t).1 h).2.1
theorem qdd {t:Tm}(h:mayT t=true):t.shp:=((qfA t).1 h).1
theorem note5 {t:Tm}(h:dle 5 t)(y:ByteArray):y∈qiG 5 [t]↔t.occ y:=qiD y 5 t h
theorem qiO (h:RisB l){b:Bd}(hb:b∈l):gB l b.name=b.t:=by
 have key:∀ l:List Bd,RisB l→b∈l→l.find? (fun c=>decide (c.name=b.name))=some b:=fun l=>by
  induction l with
  | nil=>intro _ h;cases h
  | cons a l ih=>
    intro hr hm
    rcases List.mem_cons.1 hm with rfl|hm
    ·simp
    ·have h1:=List.pairwise_cons.1 hr
     have h2:=h1.1 b hm
     have hne:a.name≠b.name:=fun e=>by rw [e,qhC] at h2;cases h2
     rw [List.find?_cons_of_neg (by simpa using hne)]
     exact ih h1.2 hm
 rw [gB,qeX,key l h hb];rfl
theorem qjk (h:RisB l)(hy:hasB l y=false):gB l y=varT y:=by
 rw [gB,qjh h hy];rfl
theorem qmS (h:RisB l)(y:ByteArray):(∃ b∈l,b.name=y∧gB l y=b.t)∨hasB l y=false∧gB l y=varT y:=by
 cases hc:hasB l y with
 | false=>exact .inr ⟨rfl,qjk h hc⟩
 | true=>
   obtain ⟨b,hb,rfl⟩:=(qfb l y).1 hc
   exact .inl ⟨b,hb,rfl,qiO h hb⟩
theorem qe8 {t:Tm}(h:dle 5 t)(l:List Bd):putT l t=t.sub (gB l):=qpG _ 5 t h
theorem qjZ (g:ByteArray→Tm)(y:ByteArray):(varT y).sub g=g y:=by rw [Tm.sub_eq];rfl
theorem qj0 (x y:ByteArray):(varT x).occ y↔x=y:=by rw [Tm.occ_iff];simp [varT]
theorem gB_occ (h:GB l)(ho:(gB l x).occ y):hasB l y=false:=by
 rcases qmS h.ris x with ⟨b,hb,_,e⟩|⟨hn,e⟩
 ·rw [e] at ho;exact h.idem b hb y ho
 ·rw [e,qj0] at ho;rw [← ho];exact hn
theorem gB_shp (h:GB l)(hx:varB x=true):(gB l x).shp:=by
 rcases qmS h.ris x with ⟨b,hb,_,e⟩|⟨hn,e⟩
 ·rw [e];exact qdd (h.el b hb).2.2
 ·rw [e,Tm.shp_iff];exact ⟨.inl ⟨rfl,hx,rfl,rfl⟩,fun u hu=>by cases hu⟩
theorem occ_var {t:Tm}(hs:t.shp)(h:t.occ y):varB y=true:=by
 refine Tm.ind (P:=fun t=>t.shp→t.occ y→varB y=true) (fun t ih hs h=>?_) t hs h
 rw [Tm.occ_iff] at h
 rcases h with ⟨h1,rfl⟩|⟨u,hu,h2⟩
 ·exact (hs.var h1).2
 ·exact ih u hu (hs.arg hu) h2
theorem gB_id (h:GB l){t:Tm}(hs:t.shp)(hn:∀ y,t.occ y→hasB l y=false):t.sub (gB l)=t:=
 sub_id hs fun y hy=>qjk h.ris (hn y hy)
theorem qqC (h:GB l){t:Tm}(hs:t.shp)(ho:(t.sub (gB l)).occ y):hasB l y=false:=by
 obtain ⟨x,_,hx⟩:=(qoZ _ y t hs).1 ho
 exact gB_occ h hx
theorem ap_shp (h:GB l){t:Tm}(hs:t.shp):(t.sub (gB l)).shp:=shp_sub hs fun y hy=>gB_shp h (occ_var hs hy)
theorem qsp (name:ByteArray)(t:Tm)(y:ByteArray):gB [⟨name,t⟩] y=if name=y then t else varT y:=by
 simp only [gB,qeX,List.find?]
 split
 ·rename_i h;simp only [decide_eq_true_eq] at h;rw [if_pos h];rfl
 ·rename_i h;simp only [decide_eq_false_iff_not] at h;rw [if_neg h];rfl
theorem GB_nil:GB []:=⟨by simp,List.Pairwise.nil,(fun b hb=>by cases hb),(fun b hb=>by cases hb)⟩
theorem qhb (l:List α)(i:Nat)(x b:α):b∈ins l i x↔b∈l∨b=x:=by
 unfold ins
 rw [List.mem_append,List.mem_cons]
 have:b∈l↔b∈l.take i∨b∈l.drop i:=by rw [← List.mem_append,List.take_append_drop]
 rw [this]
 constructor
 ·rintro (h|h|h)<;>simp [h]
 ·rintro ((h|h)|h)<;>simp [h]
theorem qlL (h:GB l){name:ByteArray}{t:Tm}(hn:varB name=true)(hns:name.size≤140737488351232)(hw:t.wf)(hm:mayT t=true)(hl:hasB l name=false)(ho:¬ t.occ name)(hf:∀ y,t.occ y→hasB l y=false)(he:qfT l name t=0):
  GB (qdM l name t)∧(qdM l name t).length=l.length+1∧(∀ y,gB (qdM l name t) y=(gB l y).sub (gB [⟨name,t⟩]))∧∀ y,hasB (qdM l name t) y=(hasB l y || decide (name=y)):=by
 have hc:¬ (16≤l.length∨qlr [⟨name,t⟩] l=false):=by
  intro hc;rw [qfT,if_pos hc] at he;cases he
 have hg:qlr [⟨name,t⟩] l=true:=by
  cases hx:qlr [⟨name,t⟩] l with
  | true=>rfl
  | false=>exact absurd (.inr hx) hc
 have hg2:∀ b∈l,mayT (putT [⟨name,t⟩] b.t)=true:=fun b hb=>(qiM (by simpa using List.all_eq_true.1 hg b hb)).1
 rw [qdM,if_neg hc]
 have hlen:(ins (subB [⟨name,t⟩] l) (posB l name) ⟨name,t⟩).length=l.length+1:=by
  rw [qbw _ _ _ (by rw [qev];exact qgv l name),qev]
 have hh:∀ y,hasB (ins (subB [⟨name,t⟩] l) (posB l name) ⟨name,t⟩) y=(hasB l y || decide (name=y)):=fun y=>by
  rw [Bool.eq_iff_iff,Bool.or_eq_true,qfb,qfb,decide_eq_true_eq]
  constructor
  ·rintro ⟨b,hb,rfl⟩
   rcases (qhb _ _ _ _).1 hb with hb|rfl
   ·obtain ⟨c,hc2,rfl⟩:=List.mem_map.1 hb
    exact .inl ⟨c,hc2,rfl⟩
   ·exact .inr E
  ·rintro (⟨b,hb,rfl⟩|rfl)
   ·exact ⟨_,(qhb _ _ _ _).2 (.inl (List.mem_map.2 ⟨b,hb,rfl⟩)),rfl⟩
   ·exact ⟨_,(qhb _ _ _ _).2 (.inr E),rfl⟩
 have hsb:hasB (subB [⟨name,t⟩] l) name=false:=by
  rw [qsn] at hl ⊢
  intro b hb
  obtain ⟨c,hc2,rfl⟩:=List.mem_map.1 hb
  exact hl c hc2
 have hris:RisB (ins (subB [⟨name,t⟩] l) (posB l name) ⟨name,t⟩):=by
  have:=qpa (y:=⟨name,t⟩) (qmr [⟨name,t⟩] h.ris) hsb
  rwa [qj2] at this
 have hone:=qmG hns hw hm
 have hput:∀ b∈l,putT [⟨name,t⟩] b.t=b.t.sub (gB [⟨name,t⟩]):=fun b hb=>qe8 (qbN (h.el b hb).2.2) _
 have hGB:GB (ins (subB [⟨name,t⟩] l) (posB l name) ⟨name,t⟩):=by
  refine ⟨by rw [hlen];omega,hris,fun b hb=>?_,fun b hb y hy=>?_⟩
  ·rcases (qhb _ _ _ _).1 hb with hb|rfl
   ·obtain ⟨c,hc2,rfl⟩:=List.mem_map.1 hb
    exact ⟨⟨(h.el c hc2).1.1,qh6 hone (h.el c hc2).1.2⟩,(h.el c hc2).2.1,hg2 c hc2⟩
   ·exact ⟨⟨hns,hw⟩,hn,hm⟩
  ·rw [hh,Bool.or_eq_false_iff,decide_eq_false_iff_not]
   rcases (qhb _ _ _ _).1 hb with hb|rfl
   ·obtain ⟨c,hc2,rfl⟩:=List.mem_map.1 hb
    simp only at hy
    rw [hput c hc2,qoZ _ _ _ (qdd (h.el c hc2).2.2)] at hy
    obtain ⟨x,hx,hy⟩:=hy
    rw [qsp] at hy
    split at hy
    ·exact ⟨hf y hy,fun e=>ho (e▸hy)⟩
    ·rename_i hne
     rw [qj0] at hy;subst hy
     exact ⟨h.idem c hc2 x hx,hne⟩
   ·exact ⟨hf y hy,fun e=>ho (e▸hy)⟩
 refine ⟨hGB,hlen,fun y=>?_,hh⟩
 rcases qmS h.ris y with ⟨b,hb,rfl,e⟩|⟨hn2,e⟩
 ·rw [e]
  have:=qiO hris (b:=⟨b.name,putT [⟨name,t⟩] b.t⟩) ((qhb _ _ _ _).2 (.inl (List.mem_map.2 ⟨b,hb,rfl⟩)))
  simp only at this
  rw [this,hput b hb]
 ·rw [e,qjZ,qsp]
  split
  ·rename_i hy;subst hy
   exact qiO hris (b:=⟨name,t⟩) ((qhb _ _ _ _).2 (.inr E))
  ·rename_i hy
   exact qjk hris (by rw [hh,hn2];simpa using hy)
def TK (t:Tm):Prop:=t.shp∧dle 5 t∧t.wf
def PK (p:Tm×Tm):Prop:=TK p.1∧TK p.2
theorem TK_may {t:Tm}(h:mayT t=true)(hw:t.wf):TK t:=⟨qdd h,qbN h,hw⟩
theorem TK.arg {t u:Tm}(h:TK t)(hu:u∈t.args):TK u:=⟨h.1.arg hu,qm4 4 5 u (by omega) (h.2.1 u hu),Tm.wfs_mem h.2.2.2.2.2.2 hu⟩
theorem qp3 {t:Tm}(h:dle 5 t)(s:ByteArray):occB t s=true↔t.occ s:=by
 rw [occB,List.any_eq_true]
 constructor
 ·rintro ⟨y,hy,e⟩
  simp only [decide_eq_true_eq] at e;subst e
  exact (note5 h y).1 hy
 ·intro ho;exact ⟨s,(note5 h s).2 ho,by simp⟩
theorem qoI (h:GB l){u:Tm}(hx:varB x=true)(hxs:x.size≤140737488351232)(hw:u.wf)(hm:mayT u=true)(hl:hasB l x=false)(hf:∀ y,u.occ y→hasB l y=false)(hne:u≠varT x):
   qgp l x u=2∨(qgp l x u=3∧∀ θ:ByteArray→Tm,θ x≠u.sub θ)∨(qgp l x u=0∧GB (qg3 l x u)∧(qg3 l x u).length=l.length+1∧(∀ y,gB (qg3 l x u) y=(gB l y).sub (gB [⟨x,u⟩]))∧∀ y,hasB (qg3 l x u) y=(hasB l y || decide (x=y))):=by
 have hs:=qdd hm
 rw [qgp,qg3]
 cases hc:occB u x with
 | true=>
   rw [qp3 (qbN hm)] at hc
   rw [if_pos rfl]
   refine .inr (.inl ⟨rfl,fun θ e=>?_⟩)
   have hk:u.kind≠1:=fun hk=>by
    have hv:=(hs.var hk).1
    rw [hv,Tm.occ_iff] at hc
    simp only [List.not_mem_nil,false_and,exists_false,or_false,true_and] at hc
    rw [hc] at hv;exact hne hv
   have:=(sz_occ θ hs hc).2 hk
   rw [e] at this;omega
 | false=>
   have ho:¬ u.occ x:=fun ho=>by rw [(qp3 (qbN hm) x).2 ho] at hc;cases hc
   rw [if_neg (by simp),if_neg (by simp)]
   by_cases he:qfT l x u=0
   ·obtain ⟨h1,h2,h3,h4⟩:=qlL h hx hxs hw hm hl ho hf he
    exact .inr (.inr ⟨he,h1,h2,h3,h4⟩)
   ·left
    unfold qfT at he ⊢
    split
    ·rfl
    ·rename_i hh;rw [if_neg hh] at he;exact absurd E he
def OneOk (l:List Bd)(a b:Tm)(q:List Bd×List (Tm×Tm)×Int):Prop:=
 mayT a=true∧mayT b=true∧((q=(l,[],0)∧a=b)∨
  (∃ x u,((a=varT x∧b=u)∨(b=varT x∧a=u))∧u.shp∧q.2=([],0)∧GB q.1∧q.1.length=l.length+1∧(∀ y,gB q.1 y=(gB l y).sub (gB [⟨x,u⟩]))∧∀ y,hasB q.1 y=(hasB l y || decide (x=y)))∨
  (q=(l,a.args.zip b.args,0)∧a.kind≠1∧b.kind≠1∧a.kind=b.kind∧a.name=b.name∧a.n=b.n∧a.args.length=b.args.length))
theorem one_spec (h:GB l){p:Tm×Tm}(hp:PK p):
  (oneR l p).2.2=2∨((oneR l p).2.2=3∧∀ θ:ByteArray→Tm,(p.1.sub (gB l)).sub θ≠(p.2.sub (gB l)).sub θ)∨OneOk l (p.1.sub (gB l)) (p.2.sub (gB l)) (oneR l p):=by
 have e1:=qe8 hp.1.2.1 l
 have e2:=qe8 hp.2.2.1 l
 have w1:=qh6 h.bok hp.1.2.2
 have w2:=qh6 h.bok hp.2.2.2
 have f1:∀ y,(p.1.sub (gB l)).occ y→hasB l y=false:=fun y=>qqC h hp.1.1
 have f2:∀ y,(p.2.sub (gB l)).occ y→hasB l y=false:=fun y=>qqC h hp.2.1
 have hi:∀ t,qgB l t=0∨qgB l t=2:=fun t=>by unfold qgB;split<;>simp
 unfold oneR
 by_cases c0:qgB l p.1=0
 case neg=>rw [if_pos c0];rcases hi p.1 with h|h;exact absurd h c0;exact .inl h
 rw [if_neg (by simp [c0])]
 by_cases c1:qgB l p.2=0
 case neg=>rw [if_pos c1];rcases hi p.2 with h|h;exact absurd h c1;exact .inl h
 rw [if_neg (by simp [c1])]
 have m1:=(qiM c0).1
 have m2:=(qiM c1).1
 rw [e1] at w1 m1
 rw [e2] at w2 m2
 rw [e1,e2]
 generalize p.1.sub (gB l)=a at*
 generalize p.2.sub (gB l)=b at*
 have s1:=qdd m1
 have s2:=qdd m2
 have key:∀ (x:ByteArray) (u:Tm),((a=varT x∧b=u)∨(b=varT x∧a=u))→u≠varT x→u.wf→mayT u=true→(∀ y,u.occ y→hasB l y=false)→varB x=true→x.size≤140737488351232→hasB l x=false→
   (qgp l x u=2∨(qgp l x u=3∧∀ θ:ByteArray→Tm,a.sub θ≠b.sub θ)∨OneOk l a b (qg3 l x u,[],qgp l x u)):=fun x u hab hne hw hm hf hx hxs hl=>by
  rcases qoI h hx hxs hw hm hl hf hne with h1|⟨h1,h2⟩|⟨h1,h2,h3,h4,h5⟩
  ·exact .inl h1
  ·refine .inr (.inl ⟨h1,fun θ e=>?_⟩)
   rcases hab with ⟨rfl,rfl⟩|⟨rfl,rfl⟩
   ·rw [qjZ] at e;exact h2 θ e
   ·rw [qjZ] at e;exact h2 θ e.symm
  ·exact .inr (.inr ⟨m1,m2,.inr (.inl ⟨x,u,hab,qdd hm,by rw [h1],h2,h3,h4,h5⟩)⟩)
 split
 ·rename_i hc
  have ea:=(s1.var hc.1).1
  have eb:=(s2.var hc.2.1).1
  exact .inr (.inr ⟨m1,m2,.inl ⟨rfl,by rw [ea,eb,hc.2.2]⟩⟩)
 rename_i n0
 split
 ·rename_i hc
  have ea:=s1.var hc.1
  refine key a.name b (.inl ⟨ea.1,rfl⟩) (fun e=>?_) w2 m2 f2 ea.2 w1.2.1 (f1 _ ((Tm.occ_iff _ _).2 (.inl ⟨hc.1,rfl⟩)))
  have hbk:b.kind=1:=by rw [e];rfl
  have hbn:b.name=a.name:=by rw [e];rfl
  exact n0 ⟨hc.1,hbk,hbn.symm⟩
 rename_i n1
 split
 ·rename_i hc
  have eb:=s2.var hc
  refine key b.name a (.inr ⟨eb.1,rfl⟩) (fun e=>?_) w1 m1 f1 eb.2 w2.2.1 (f2 _ ((Tm.occ_iff _ _).2 (.inl ⟨hc,rfl⟩)))
  have hak:a.kind=1:=by rw [e];rfl
  have han:a.name=b.name:=by rw [e];rfl
  exact n0 ⟨hak,hc,han⟩
 rename_i n2
 have hak:a.kind≠1:=fun hk=>n1 ⟨hk,.inl n2⟩
 split
 ·rename_i hc
  rw [qjM,if_pos hc]
  simp only [qdZ,Bool.and_eq_true,decide_eq_true_eq] at hc
  exact .inr (.inr ⟨m1,m2,.inr (.inr ⟨rfl,hak,n2,hc.1.1.1,hc.1.1.2,hc.1.2,hc.2⟩)⟩)
 ·rename_i hc
  refine .inr (.inl ⟨rfl,fun θ e=>?_⟩)
  rw [Tm.sub_eq,if_neg hak,Tm.sub_eq,if_neg n2] at e
  simp only [Tm.mk.injEq] at e
  apply hc
  have:=congrArg List.length e.2.2.2
  simp only [List.length_map] at this
  simp [qdZ,e.1,e.2.1,e.2.2.1,this]
def uIter:Nat→List Bd→List (Tm×Tm)→Option (List Bd×Int)
 | _,l,[]=>some (l,0)
 | 0,_,_::_=>none
 | n+1,l,p::ps=>if (oneR l p).2.2≠0 then some ([],(oneR l p).2.2) else uIter n (oneR l p).1 ((oneR l p).2.1++ps)
theorem PK_zip {a b:Tm}(ha:TK a)(hb:TK b):∀ p∈a.args.zip b.args,PK p:=fun p hp=>by
 have:=List.of_mem_zip hp
 exact ⟨ha.arg this.1,hb.arg this.2⟩
theorem qnK (h:GB l){p:Tm×Tm}(hp:PK p)(he:(oneR l p).2.2=0):GB (oneR l p).1∧(∀ q∈(oneR l p).2.1,PK q)∧OneOk l (p.1.sub (gB l)) (p.2.sub (gB l)) (oneR l p):=by
 have e1:=qe8 hp.1.2.1 l
 have e2:=qe8 hp.2.2.1 l
 have w1:=qh6 h.bok hp.1.2.2
 have w2:=qh6 h.bok hp.2.2.2
 rw [e1] at w1
 rw [e2] at w2
 rcases one_spec h hp with h1|⟨h1,_⟩|h1
 ·rw [h1] at he;cases he
 ·rw [h1] at he;cases he
 ·refine ⟨?_,?_,h1⟩
  ·obtain ⟨_,_,⟨e,_⟩|⟨x,u,_,_,e,hg,_⟩|⟨e,_⟩⟩:=h1
   ·rw [e];exact h
   ·exact hg
   ·rw [e];exact h
  ·obtain ⟨m1,m2,⟨e,_⟩|⟨x,u,_,_,e,hg,_⟩|⟨e,_⟩⟩:=h1
   ·rw [e];intro q hq;cases hq
   ·rw [e];intro q hq;cases hq
   ·rw [e];exact PK_zip (TK_may m1 w1) (TK_may m2 w2)
def wgh (l:List Bd)(ps:List (Tm×Tm)):Nat:=(ps.map fun p=>(p.1.sub (gB l)).sz).sum
theorem qpB (l:List Bd)(p:Tm×Tm)(ps:List (Tm×Tm)):wgh l (p::ps)=(p.1.sub (gB l)).sz+wgh l ps:=by simp [wgh]
theorem qqJ (l:List Bd)(ps qs:List (Tm×Tm)):wgh l (ps++qs)=wgh l ps+wgh l qs:=by simp [wgh]
theorem qrB (h:GB l){p:Tm×Tm}(hp:PK p){bs:List Tm}(hlen:(p.1.sub (gB l)).args.length=bs.length):1+wgh l ((p.1.sub (gB l)).args.zip bs)=(p.1.sub (gB l)).sz:=by
 rw [Tm.sz_eq (p.1.sub (gB l)),wgh]
 have hs:=ap_shp h hp.1.1
 have ho:∀ y,(p.1.sub (gB l)).occ y→hasB l y=false:=fun y=>qqC h hp.1.1
 have e:(((p.1.sub (gB l)).args.zip bs).map fun p=>(p.1.sub (gB l)).sz)=(((p.1.sub (gB l)).args.zip bs).map Prod.fst).map fun u=>(u.sub (gB l)).sz:=by rw [List.map_map];rfl
 rw [e,List.map_fst_zip (by omega)]
 have e2:((p.1.sub (gB l)).args.map fun u=>(u.sub (gB l)).sz)=(p.1.sub (gB l)).args.map Tm.sz:=List.map_congr_left fun u hu=>by
  rw [gB_id h (hs.arg hu) fun y hy=>ho y ((Tm.occ_iff _ _).2 (.inr ⟨u,hu,hy⟩))]
 rw [e2]
def WI (l:List Bd)(ps:List (Tm×Tm)):Prop:=∃ pend rest,ps=pend++rest∧wgh l pend≤24∧rest.length≤24*(l.length+1)
theorem qoF (l:List Bd):∀ ps,ps.length≤wgh l ps
 | []=>Nat.zero_le _
 | p::ps=>by
   have:=qoF l ps
   have:=Tm.sz_pos (p.1.sub (gB l))
   rw [qpB,List.length_cons];omega
theorem WI.len {ps:List (Tm×Tm)}(h:WI l ps)(hl:l.length≤16):ps.length≤432:=by
 obtain ⟨pend,rest,rfl,h1,h2⟩:=h
 have:=qoF l pend
 rw [List.length_append];omega
theorem WI.step (h:GB l){p:Tm×Tm}(hp:PK p){ps:List (Tm×Tm)}(hw:WI l (p::ps))(he:(oneR l p).2.2=0):WI (oneR l p).1 ((oneR l p).2.1++ps):=by
 obtain ⟨g1,g2,g3⟩:=qnK h hp he
 obtain ⟨pend,rest,e0,h1,h2⟩:=hw
 cases pend with
 | nil=>
   simp only [List.nil_append] at e0
   subst e0
   simp only [List.length_cons] at h2
   obtain ⟨m1,m2,⟨e,_⟩|⟨x,u,_,_,e,_,hl,_⟩|⟨e,_,_,_,_,_,hlen⟩⟩:=g3
   ·rw [e];exact ⟨[],ps,rfl,by simp [wgh],by simp only;omega⟩
   ·rw [e];exact ⟨[],ps,rfl,by simp [wgh],by rw [hl];omega⟩
   ·rw [e]
    have:=qrB h hp hlen
    have hz:=((qfA _).1 m1).2.2
    exact ⟨_,ps,rfl,by simp only;omega,by simp only;omega⟩
 | cons q pend=>
   simp only [List.cons_append,List.cons.injEq] at e0
   obtain ⟨rfl,rfl⟩:=e0
   rw [qpB] at h1
   have hpos:=Tm.sz_pos (p.1.sub (gB l))
   obtain ⟨m1,m2,⟨e,_⟩|⟨x,u,_,_,e,_,hl,_⟩|⟨e,_,_,_,_,_,hlen⟩⟩:=g3
   ·rw [e];exact ⟨pend,rest,rfl,by simp only;omega,h2⟩
   ·rw [e]
    refine ⟨[],pend++rest,rfl,by simp [wgh],?_⟩
    have:=qoF l pend
    rw [hl,List.length_append];omega
   ·rw [e]
    have:=qrB h hp hlen
    refine ⟨(p.1.sub (gB l)).args.zip (p.2.sub (gB l)).args++pend,rest,by simp,?_,h2⟩
    rw [qqJ];simp only;omega
def uSt:Nat→List Bd×List (Tm×Tm)→List Bd×List (Tm×Tm)
 | 0,s=>s
 | k+1,s=>match uSt k s with
   | (l,[])=>(l,[])
   | (l,p::ps)=>((oneR l p).1,(oneR l p).2.1++ps)
theorem uSt_step {s:List Bd×List (Tm×Tm)}{p:Tm×Tm}{ps:List (Tm×Tm)}(h:(uSt k s).2=p::ps):uSt (k+1) s=((oneR (uSt k s).1 p).1,(oneR (uSt k s).1 p).2.1++ps):=by
 rw [uSt]
 split
 ·rename_i e;rw [e] at h;cases h
 ·rename_i e;rw [e] at h ⊢;simp only [List.cons.injEq] at h;obtain ⟨rfl,rfl⟩:=h;rfl
def UI (n:Nat)(s:List Bd×List (Tm×Tm))(R:List Bd×Int)(k:Nat):Prop:=k≤n∧GB (uSt k s).1∧(∀ p∈(uSt k s).2,PK p)∧WI (uSt k s).1 (uSt k s).2∧uIter (n-k) (uSt k s).1 (uSt k s).2=some R
theorem UI.step {n:Nat}{s:List Bd×List (Tm×Tm)}{R:List Bd×Int}(h:UI n s R k){p:Tm×Tm}{ps:List (Tm×Tm)}(hp:(uSt k s).2=p::ps):k<n∧((oneR (uSt k s).1 p).2.2=0→UI n s R (k+1))∧((oneR (uSt k s).1 p).2.2≠0→R=([],(oneR (uSt k s).1 p).2.2)):=by
 obtain ⟨h1,h2,h3,h4,h5⟩:=h
 rw [hp] at h3 h4 h5
 have hk:k<n:=by
  rcases Nat.lt_or_ge k n with h|h
  ·exact h
  ·rw [show n-k=0 by omega,uIter] at h5;cases h5
 rw [show n-k=(n-(k+1))+1 by omega,uIter] at h5
 refine ⟨hk,fun he=>?_,fun he=>?_⟩
 ·rw [if_neg (by simp [he])] at h5
  obtain ⟨g1,g2,_⟩:=qnK h2 (h3 p (by simp)) he
  rw [UI,uSt_step hp]
  exact ⟨hk,g1,fun q hq=>by
   rcases List.mem_append.1 hq with hq|hq
   ·exact g2 q hq
   ·exact h3 q (by simp [hq]),WI.step h2 (h3 p (by simp)) h4 he,h5⟩
 ·rw [if_pos he] at h5;exact (Option.some.inj h5).symm
end Go.Proofs.YtpgceiijoedppaaGreat
namespace Go.Proofs.YtpgceiijoedppaaGreat
open Go Go.RowKit
structure Ask2 where
 B:List (List Bd)
 T:List Tm
 S:List ByteArray
def Ask2.wf (p:Ask2):Prop:=(qbt p.B∧∀ l∈p.B,qbt l∧∀ b∈l,b.wf)∧(qbt p.T∧Tm.wfs p.T)∧(qbt p.S∧∀ s∈p.S,s.size≤140737488351232)
end Go.Proofs.YtpgceiijoedppaaGreat
namespace Go.Proofs.YtpgceiijoedppaaGreat
open Go
theorem qnw {c:Ctx}{N:Nat}{T:List (Nat×AV)}{O:List (Nat×Ob)}(t:Nat){v u:AV}(ht:lk T t=some v)(hle:Le v u):Sub c N ⟨T,O⟩ ⟨(t,u)::T,O⟩:=by
 rintro a w ⟨ρ,S,hc⟩
 have hev:=hc.T t _ ht
 refine ⟨ρ,S,{ hc with tm:=hc.tm,T:=fun s x hs=>?_ }⟩
 simp only [qcm] at hs
 split at hs
 ·rename_i e';subst e'
  simp only [Option.some.injEq] at hs;subst hs
  exact hle.rep hev
 ·exact hc.T s x hs
theorem tm_wf1 {k:Int}{s:ByteArray}{n:Int}{l:List Tm}(hk:-9223372036854775808≤k∧k≤9223372036854775807)(hs:s.size≤140737488351232)(hn:-9223372036854775808≤n∧n≤9223372036854775807)(hl:l.length*56≤140737488351232)(h:∀ t∈l,t.wf):(Tm.mk k s n l).wf:=⟨hk,hs,hn,hl,wfs_of h⟩
abbrev nmT (s:ByteArray)(l:List Tm):Tm:=⟨3,s,0,l⟩
theorem nmT_w (s:ByteArray)(l:List Tm)(h:s.size≤140737488351232)(hl:l.length*56≤140737488351232)(hw:∀ t∈l,t.wf):(nmT s l).wf:=tm_wf1 (by decide) h (by decide) hl hw
abbrev sC:ByteArray:=⟨#[99]⟩
theorem oC:(nmT sC []).wf:=nmT_w _ _ (by decide) (by decide) (fun t ht=>by cases ht)
end Go.Proofs.YtpgceiijoedppaaGreat