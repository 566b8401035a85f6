/- Part 26 of the proof: Ia, Kb, Gq, Gr, Gs. -/
import Derived.Test.YtpgceiijoedppaaGreatC24
import Derived.DeepKeys4
set_option linter.unusedVariables false
set_option linter.unusedSimpArgs false
set_option maxRecDepth 8000
namespace Go.Proofs.YtpgceiijoedppaaGreat
open Go
variable {g:ByteArray→Tm}{l:List Bd}{t:Tm}
def dpA (f:Tm→Int)(l:List Tm):Int:=l.foldl (fun n u=>max n (f u)) 0
def dpT:Nat→Tm→Int
 | 0,_=>0
 | d+1,t=>dpA (dpT d) t.args+1
def flatB (t:Tm):Bool:=decide (t.kind=3)&&decide (dpT 5 t≤2)
def qb2 (t:Tm):Bool:=decide (t.kind=0)&&decide (t.name=⟨#[]⟩)&&decide (t.n=0)&&decide (t.args.length=0)
theorem qoO (t:Tm)(ht:t.wf):PF 169 [tmA false t] (bv (qb2 t)):=by
 have hlen:=qaY t.args
 refine qI Tryz.func169 E Tryz.ntmps169 zL fun c hL hQ hDD=>(qd (qb (qt E E zD (q6 1 E E E) E (zX E (zK (qd ?_))))));refine qb (zA E (qe E qaL E) (zA E (qi E qQ E E E E E) (zA E (qj E E E E) (zX E (qE 6 E (fun g6=>?_) (fun g6=>?_))))))
 ·simp only[↓cqA,cqB]at g6
  refine zZ E (qe E qay E) (zZ E (qi E qar E E E E E) (zZ E (qcH E E E E) (zA E (qk E E E) (zX E (qE 11 E (fun g11=>?_) (fun g11=>?_))))))
  ·simp only[↓cqA,cqB]at g11
   refine zZ E (qe E qbb E) (zZ E (qi E qQ E E E E E) (zZ E (qj E E E E) (zA E (qk E E E) (zX E (qE 16 E (fun g16=>?_) (fun g16=>?_))))))
   ·simp only[↓cqA,cqB]at g16
    refine zZ E (qe E qaa E) (zZ E (qi E q9 E E E E E) (zZ E (qu E qN E) (zZ E (qj E E E E) (zA E (qk E E E) (zX E (zK ?_))))));refine qn (zI hL (qg E qh) ?_ ?_)
    ·rfl
    refine ⟨q7 ?_,rfl⟩
    first|(simp_all [qb2];done)|(simp_all [qb2];cases t.args<;>simp<;>omega)
   simp only[↓cqA,cqB]at g16
   refine zY E (zY E (zY E (zY E (zA E (qk E E E) (zX E (zK ?_))))));refine qn (zI hL (qg E qh) ?_ ?_)
   ·rfl
   refine ⟨q7 ?_,rfl⟩
   first|(simp_all [qb2];done)|(simp_all [qb2];cases t.args<;>simp<;>omega)
  simp only[↓cqA,cqB]at g11
  refine zY E (zY E (zY E (zA E (qk E E E) (zX E (zY E (zY E (zY E (zY E (zA E (qk E E E) (zX E (zK (qn (zI hL (qg E qh) ?_ ?_)))))))))))))
  ·rfl
  refine ⟨q7 ?_,rfl⟩
  first|(simp_all [qb2];done)|(simp_all [qb2];cases t.args<;>simp<;>omega)
 simp only[↓cqA,cqB]at g6
 refine zY E (zY E (zY E (zA E (qk E E E) (zX E (zY E (zY E (zY E (zA E (qk E E E) (zX E (zY E (zY E (zY E (zY E (zA E (qk E E E) (zX E (zK (qn (zI hL (qg E qh) ?_ ?_))))))))))))))))))
 ·rfl
 refine ⟨q7 ?_,rfl⟩
 first|(simp_all [qb2];done)|(simp_all [qb2];cases t.args<;>simp<;>omega)
def cmpsB (g:Gd):Bool:=decide (1≤g.kind)&&decide (g.kind≤4)&&mayT g.l&&mayT g.r
def okG (g:Gd):Bool:=cmpsB g || ((decide (g.kind=5) || decide (g.kind=6))&&(mayT g.l&&flatB g.l)&&qb2 g.r)
theorem occ_varB {y:ByteArray}(hs:t.shp):t.occ y→varB y=true:=by
 refine Tm.ind (P:=fun t=>t.shp→t.occ y→varB y=true) (fun t ih hs ho=>?_) t hs
 rcases (Tm.occ_iff y t).1 ho with ⟨hk,e⟩|⟨u,hu,ho⟩
 ·rw [← e];exact (hs.var hk).2
 ·exact ih u hu (hs.arg hu) ho
theorem sz_leaf (h:t.args=[]):t.sz=1:=by
 cases t;simp only at h;subst h;rfl
theorem sub_leaf (t:Tm):t.shp→(∀ y,t.occ y→(g y).shp∧(g y).args=[])→(t.sub g).shp∧(t.sub g).sz=t.sz∧∀ d,dle d t→dle d (t.sub g):=by
 refine Tm.ind (P:=fun t=>t.shp→(∀ y,t.occ y→(g y).shp∧(g y).args=[])→(t.sub g).shp∧(t.sub g).sz=t.sz∧∀ d,dle d t→dle d (t.sub g)) (fun t ih hs hg=>?_) t
 rw [Tm.sub_eq]
 split
 ·rename_i hk
  obtain ⟨h1,h2⟩:=hg t.name ((Tm.occ_iff _ _).2 (.inl ⟨hk,rfl⟩))
  have ev:=(hs.var hk).1
  refine ⟨h1,by rw [sz_leaf h2,ev];rfl,fun d hd=>?_⟩
  cases d with
  | zero=>exact hd
  | succ d=>intro u hu;rw [h2] at hu;cases hu
 ·rename_i hk
  have ih2:=fun u hu=>ih u hu (hs.arg hu) (fun y hy=>hg y ((Tm.occ_iff _ _).2 (.inr ⟨u,hu,hy⟩)))
  have htop:=((Tm.shp_iff t).1 hs).1
  refine ⟨(Tm.shp_iff _).2 ⟨?_,fun v hv=>?_⟩,?_,fun d hd=>?_⟩
  ·simp only [Tm.top] at htop ⊢
   rcases htop with ⟨h1,_⟩|⟨h1,h2,h3,h4⟩|⟨h1,h2,h3,h4⟩
   ·exact absurd h1 hk
   ·exact .inr (.inl ⟨h1,h2,h3,by rw [h4];rfl⟩)
   ·exact .inr (.inr ⟨h1,h2,h3,by simpa using h4⟩)
  ·obtain ⟨u,hu,rfl⟩:=List.mem_map.1 hv
   exact (ih2 u hu).1
  ·rw [Tm.sz_eq,Tm.sz_eq]
   simp only [List.map_map]
   congr 2
   exact List.map_congr_left fun u hu=>(ih2 u hu).2.1
  ·cases d with
   | zero=>exact hd
   | succ d=>
     intro v hv
     obtain ⟨u,hu,rfl⟩:=List.mem_map.1 hv
     exact (ih2 u hu).2.2 d (hd u hu)
theorem may_leaf (h:mayT t=true)(hg:∀ y,t.occ y→(g y).shp∧(g y).args=[]):mayT (t.sub g)=true:=by
 obtain ⟨h1,h2,h3⟩:=(qfA t).1 h
 obtain ⟨k1,k2,k3⟩:=sub_leaf t h1 hg
 exact (qfA _).2 ⟨k1,k3 5 h2,by omega⟩
structure FG (l:List Bd):Prop where
 gg:GG l
 leaf:∀ b∈l,b.t.args=[]
theorem FG.get (h:FG l)(ht:mayT t=true):∀ y,t.occ y→(gB l y).shp∧(gB l y).args=[]:=fun y hy=>by
 cases hh:hasB l y with
 | true=>
   obtain ⟨b,hb,rfl⟩:=(qfb l y).1 hh
   rw [qiO h.gg.gb.ris hb]
   exact ⟨qdd (h.gg.gb.el b hb).2.2,h.leaf b hb⟩
 | false=>
   rw [qjk h.gg.gb.ris hh]
   exact ⟨(Tm.shp_iff _).2 ⟨.inl ⟨rfl,occ_varB (qdd ht) hy,rfl,rfl⟩,fun u hu=>by cases hu⟩,rfl⟩
theorem FG.put (h:FG l)(ht:mayT t=true):mayT (putT l t)=true:=by
 rw [qe8 (qbN ht)]
 exact may_leaf ht (h.get ht)
def u8 (n:Int):UInt8:=UInt8.ofNat (n % 256).toNat
theorem qmh (n:Int):IntKind.u8.wrap n=((u8 n).toNat:Int):=by
 have h1:0≤n % 256:=Int.emod_nonneg _ (by decide)
 have h2:n % 256<256:=Int.emod_lt_of_pos _ (by decide)
 have e:IntKind.u8.wrap n=n % 256:=by
  simp [IntKind.wrap,IntKind.signed,IntKind.bits]
 rw [e,u8,UInt8.toNat_ofNat']
 omega
def kq (n:Int):Int:=IntKind.u32.wrap (IntKind.i32.wrap n)
def keyL:Nat→Tm→List UInt8
 | 0,_=>[]
 | d+1,t=>[u8 t.kind,u8 t.name.size]++t.name.data.toList++[u8 (kq t.n / 2 ^ min (24:Int).toNat IntKind.u32.bits),u8 (kq t.n / 2 ^ min (16:Int).toNat IntKind.u32.bits),u8 (kq t.n / 2 ^ min (8:Int).toNat IntKind.u32.bits),u8 (kq t.n),u8 t.args.length]++(t.args.map (keyL d)).flatten
theorem qj4 (h:t.shp):t.name.size≤16:=by
 have hw:∀ p,qjI p t.name=true→t.name.size≤16:=fun p hp=>by
  simp only [qjI,Bool.and_eq_true,decide_eq_true_eq] at hp
  exact hp.1.1.2
 rcases ((Tm.shp_iff t).1 h).1 with ⟨_,h,_⟩|⟨_,_,h,_⟩|⟨_,h,_⟩
 ·exact hw _ h
 ·omega
 ·exact hw _ h
theorem qka:∀ (d:Nat) (t:Tm),t.shp→(keyL d t).length≤23*t.sz
 | 0,t,_=>by simp [keyL]
 | d+1,t,h=>by
   have hn:=qj4 h
   have e:t.name.data.toList.length=t.name.size:=by simp
   have key:∀ l:List Tm,(∀ u∈l,u.shp)→(l.map (keyL d)).flatten.length≤23*(l.map Tm.sz).sum:=fun l=>by
    induction l with
    | nil=>intro _;simp
    | cons a l ih=>
      intro hl
      have h1:=ih fun u hu=>hl u (by simp [hu])
      have h2:=qka d a (hl a (by simp))
      simp only [List.map_cons,List.flatten_cons,List.length_append,List.sum_cons]
      omega
   have h3:=key t.args fun u hu=>h.arg hu
   rw [Tm.sz_eq,keyL]
   simp only [List.length_append,List.length_cons,List.length_nil,e]
   omega
theorem Key_ok:∀ (d:Nat) (t:Tm),dle d t→t.shp→t.wf→t.sz≤1000→PF 262 [tmA false t] (sv ⟨(keyL d t).toArray⟩)
 | 0,t,h,_,_,_=>h.elim
 | d+1,t,h,hs,ht,hz=>by
   have hlen:=qaY t.args
   have hal:t.args.length≤4:=by
    rcases ((Tm.shp_iff t).1 hs).1 with ⟨_,_,_,e⟩|⟨_,_,_,e⟩|⟨_,_,_,e⟩<;>simp_all
   have hnm:=qj4 hs
   have hkl:=qka (d+1) t hs
   have hk2:(keyL (d+1) t).length=7+t.name.size+((t.args.map (keyL d)).flatten).length:=by
    have e:t.name.data.toList.length=t.name.size:=by simp
    rw [keyL];simp only [List.length_append,List.length_cons,List.length_nil,e];omega
   have e8:∀ l:List UInt8,(ByteArray.mk l.toArray).size=l.length:=fun l=>by simp [ByteArray.size]
   refine qI Tryz.func262 E Tryz.ntmps262 zL fun c hL hQ hDD=>(qd (qb (qt E E zD (q6 1 E E E) E (zX E (zK (qd ?_))))));refine qb (zA E (qe E qaL E) (zA E (qi E qQ E E E E E) (zA E (qec E qns qfw E) (zA E (qe E qay E) (zA E (qi E qar E E E E E) (zA E (qdc E qbA E) (zA E (qec E qns qfw E) ?_)))))))
   rw [qmh,qmh]
   refine qt E E zD (qaj 14 E qjb qpz E E zD zD zD E E E) E (qcE 14 false 2 E E E E (zX E (zK (qd (qb (zX E ?_))))));refine zA E (qe E qay E) (zA E (qi E qar E E E E E) ?_)
   refine qho 18 qi8 (by kernel_rfl) qbA E E zD E E E (noL hL _) E E (by simp [qhm];omega) ?_;refine zX E ?_;refine qc ?_;refine qa ?_;refine qd ?_;refine qb ?_;refine zA E (qe E qbb E) ?_;refine zA E (qi E qQ E E E E E) (zA E (qec E qns ul_int32 E) (zA E (qec E us_int32 qrD E) (zX E (zK (qd (qb (zX E (zX E (zA E (qmt E E E zD) (zA E (qec E qii qfw E) (zX E (zA E (qmt E E E zD) (zA E (qec E qii qfw E) (zX E (zA E (qmt E E E zD) (zA E (qec E qii qfw E) (zX E (zA E (qec E qii qfw E) (zA E (qe E qaa E) ?_)))))))))))))))))))
   refine zA E (qi E q9 E E E E E) (zA E (qu E qN E) (zA E (qec E qns qfw E) ?_))
   simp only [qmh]
   refine qt E E zD (qaj 39 E qjb qpz E E zD zD zD E E E) E ?_;refine qcE 39 false 5 E E E E ?_;refine qcG 40 qi8 E E zD E E E (qdJ E E) E (fun d hd=>by simp only [qhm,List.take,List.drop,List.mem_cons,List.not_mem_nil,or_false] at hd;rcases hd with rfl|rfl|rfl|rfl|rfl<;>rfl) (noL hL _) E (by simp [qhm,qhF];omega) E ?_;refine zX E ?_
   refine zK (qd (qd (qb (zA E (qe E qaa E) (zA E (qi E q9 E E E E E) (zA E (qu E qN E) ?_))))));refine zX E (zK (qv (qac (t.args.length) (fun k=>k≤t.args.length) (fun k=>⟨[(3,.row 3),(42,.dat false 4 (tmDs t.args)),(43,iv (tmDs t.args).length),(44,iv (k:Int))],[(3,.rowd 5 1 false (btL ([u8 t.kind,u8 t.name.size]++t.name.data.toList++[u8 (kq t.n / 2 ^ min (24:Int).toNat IntKind.u32.bits),u8 (kq t.n / 2 ^ min (16:Int).toNat IntKind.u32.bits),u8 (kq t.n / 2 ^ min (8:Int).toNat IntKind.u32.bits),u8 (kq t.n),u8 t.args.length]++((t.args.take k).map (keyL d)).flatten)))]⟩) zO ?_ (fun k hk hp=>?_))))
   ·exact Sub.trans (qZ 40 3 (noL hL _) (noL hL _)) (qC (zC E (zC E (zC E (zC E SubT.nil)))) (SubO.cons (qU E (by simp [btL,qhm,hlen];rfl)) SubO.nil) E E (noL' (noL hL) _))
   have hfl:=qfK (t.args.map (keyL d)) k
   rw [← List.map_take] at hfl
   have hbl:=qhF ([u8 t.kind,u8 t.name.size]++t.name.data.toList++[u8 (kq t.n / 2 ^ min (24:Int).toNat IntKind.u32.bits),u8 (kq t.n / 2 ^ min (16:Int).toNat IntKind.u32.bits),u8 (kq t.n / 2 ^ min (8:Int).toNat IntKind.u32.bits),u8 (kq t.n),u8 t.args.length]++((t.args.take k).map (keyL d)).flatten)
   have hbl2:([u8 t.kind,u8 t.name.size]++t.name.data.toList++[u8 (kq t.n / 2 ^ min (24:Int).toNat IntKind.u32.bits),u8 (kq t.n / 2 ^ min (16:Int).toNat IntKind.u32.bits),u8 (kq t.n / 2 ^ min (8:Int).toNat IntKind.u32.bits),u8 (kq t.n),u8 t.args.length]++((t.args.take k).map (keyL d)).flatten).length=7+t.name.size+(((t.args.take k).map (keyL d)).flatten).length:=by
    have e:t.name.data.toList.length=t.name.size:=by simp
    simp only [List.length_append,List.length_cons,List.length_nil,e];omega
   refine qd (qb (zA E (qj E E E E) (zK (qd (qo E (fun c0=>?_) (fun c0=>?_))))))
   ·simp only[↓cqA,cqB]at c0
    obtain ⟨u,hu⟩:=qM (l:=t.args) (k:=k) (by omega)
    have hum:=List.mem_of_getElem? hu
    have husz:u.sz≤t.sz:=by
     have:=qfi (l:=t.args) (k:=k) (u:=u) Tm.sz hu
     rw [Tm.sz_eq t];omega
    have hul:=qka d u (hs.arg hum)
    have hue:=e8 (keyL d u)
    refine qr (qa (qd (qv (qd (qb (zA E (qp E qN E E zO (qbP hu)) (zA E (qD E qz E E) (qt E E zD (qat 6 E qaJ E) E (qT E E E qz E E E E E E E E E (zK (qb (zX E (zA E (qF E qz E E E E) (qH (avs:=[_]) true E E E zD qk4 E E (Key_ok d u (h u hum) (hs.arg hum) (Tm.wfs_mem ht.2.2.2.2 hum) zO) E E (qho 51 qi8 (by kernel_rfl) qbA E E zD E E E (noL hL _) E E zO (zX E (qc ?_)))))))))))))))))
    refine qR (qa (qb (zA E (qO E E E zO) (zX E (zK ?_)))));refine ⟨?_,?_,?_⟩
    ·omega
    ·omega
    exact Sub.trans (qZ 51 3 (noL hL _) (noL hL _)) (qC (zC E (zC E (zC E (zC E SubT.nil)))) (SubO.cons (qU E (by rw [qas hu,List.map_append,List.flatten_append];simp [btL];rfl)) SubO.nil) E E (noL' (noL hL) _))
   simp only[↓cqA,cqB]at c0
   refine qV (qq (qq (qad ?_)));refine qa (qd (qb (zX E (zA E (qln E (by kernel_rfl) qfw qbA E E) (zX E (zK ?_))))));refine qn (zI hL (qg E qh) ?_ ?_)
   ·rfl
   refine ⟨?_,rfl⟩
   rw [List.take_of_length_le (by omega),keyL];rfl
theorem qkh {a b:Int}(h:u8 a=u8 b):a % 256=b % 256:=by
 have:=congrArg (fun x:UInt8=>(x.toNat:Int)) h
 simp only [← qmh] at this
 have e:∀ n:Int,IntKind.u8.wrap n=n % 256:=fun n=>by simp [IntKind.wrap,IntKind.signed,IntKind.bits]
 rwa [e,e] at this
theorem qqg (n:Int):0≤kq n∧kq n<4294967296:=by
 have e:∀ n:Int,IntKind.u32.wrap n=n % 4294967296:=fun n=>by simp [IntKind.wrap,IntKind.signed,IntKind.bits]
 rw [kq,e]
 exact ⟨Int.emod_nonneg _ zD,Int.emod_lt_of_pos _ zD⟩
theorem kq_inj {a b:Int}(ha:-1073741824≤a∧a≤1073741824)(hb:-1073741824≤b∧b≤1073741824)(h:kq a=kq b):a=b:=by
 have e:∀ n:Int,IntKind.u32.wrap n=n % 4294967296:=fun n=>by simp [IntKind.wrap,IntKind.signed,IntKind.bits]
 have e2:∀ n:Int,-1073741824≤n∧n≤1073741824→IntKind.i32.wrap n=n:=fun n hn=>by
  simp [IntKind.wrap,IntKind.signed,IntKind.bits]
  split<;>omega
 rw [kq,kq,e,e,e2 a ha,e2 b hb] at h
 omega
theorem qqm {α β:Type}{f:α→List β}:∀ (l m:List α) (r s:List β),l.length=m.length→(∀ a∈l,∀ b∈m,∀ r s,f a++r=f b++s→a=b∧r=s)→(l.map f).flatten++r=(m.map f).flatten++s→l=m∧r=s
 | [],[],r,s,_,_,h=>⟨rfl,by simpa using h⟩
 | a::l,b::m,r,s,hl,hf,h=>by
   simp only [List.map_cons,List.flatten_cons,List.append_assoc] at h
   obtain ⟨h1,h2⟩:=hf a (by simp) b (by simp) _ _ h
   obtain ⟨h3,h4⟩:=qqm l m r s (by simpa using hl) (fun x hx y hy=>hf x (by simp [hx]) y (by simp [hy])) h2
   exact ⟨by rw [h1,h3],h4⟩
 | [],_::_,_,_,hl,_,_=>by simp at hl
 | _::_,[],_,_,hl,_,_=>by simp at hl
theorem shp_n (h:t.shp):-1073741824≤t.n∧t.n≤1073741824:=by
 rcases ((Tm.shp_iff t).1 h).1 with ⟨_,_,e,_⟩|⟨_,e,_⟩|⟨_,_,e,_⟩
 ·omega
 ·simpa [numB] using e
 ·omega
theorem shp_k (h:t.shp):1≤t.kind∧t.kind≤3:=by
 rcases ((Tm.shp_iff t).1 h).1 with ⟨e,_⟩|⟨e,_⟩|⟨e,_⟩<;>omega
theorem shp_al (h:t.shp):t.args.length≤4:=by
 rcases ((Tm.shp_iff t).1 h).1 with ⟨_,_,_,e⟩|⟨_,_,_,e⟩|⟨_,_,_,e⟩
 ·rw [e];simp
 ·rw [e];simp
 ·exact e
theorem qqh:∀ (d:Nat) (a b:Tm),dle d a→dle d b→a.shp→b.shp→∀ r s:List UInt8,keyL d a++r=keyL d b++s→a=b∧r=s
 | 0,a,_,h,_,_,_=>h.elim
 | d+1,a,b,da,db,sa,sb=>fun r s h=>by
   have na:=qj4 sa
   have nb:=qj4 sb
   have la:a.name.data.toList.length=a.name.size:=by simp
   have lb:b.name.data.toList.length=b.name.size:=by simp
   have ka:=shp_k sa
   have kb:=shp_k sb
   have aa:=shp_al sa
   have ab:=shp_al sb
   rw [keyL,keyL] at h
   simp only [List.append_assoc,List.cons_append,List.nil_append,List.cons.injEq] at h
   obtain ⟨h1,h2,h⟩:=h
   have h1:=qkh h1
   have h2:=qkh h2
   have hsz:a.name.size=b.name.size:=by omega
   obtain ⟨h3,h⟩:=List.append_inj h (by rw [la,lb,hsz])
   simp only [List.cons.injEq] at h
   obtain ⟨q1,q2,q3,q4,q5,h⟩:=h
   have q1:=qkh q1
   have q2:=qkh q2
   have q3:=qkh q3
   have q4:=qkh q4
   have q5:=qkh q5
   have c24:min (24:Int).toNat IntKind.u32.bits=24:=by decide
   have c16:min (16:Int).toNat IntKind.u32.bits=16:=by decide
   have c8:min (8:Int).toNat IntKind.u32.bits=8:=by decide
   rw [c24] at q1
   rw [c16] at q2
   rw [c8] at q3
   have ra:=qqg a.n
   have rb:=qqg b.n
   have hq:kq a.n=kq b.n:=by
    have p24:(2:Int) ^ 24=16777216:=by decide
    have p16:(2:Int) ^ 16=65536:=by decide
    have p8:(2:Int) ^ 8=256:=by decide
    rw [p24] at q1
    rw [p16] at q2
    rw [p8] at q3
    omega
   have hn:=kq_inj (shp_n sa) (shp_n sb) hq
   obtain ⟨h4,h5⟩:=qqm a.args b.args r s (by omega) (fun x hx y hy=>qqh d x y (da x hx) (db y hy) (sa.arg hx) (sb.arg hy)) h
   refine ⟨?_,h5⟩
   have hk:a.kind=b.kind:=by omega
   have hnm:=bext h3
   cases a;cases b
   simp only at hk hnm hn h4
   rw [hk,hnm,hn,h4]
end Go.Proofs.YtpgceiijoedppaaGreat
namespace Go.Proofs.YtpgceiijoedppaaGreat
open Go Go.Maps
variable {n:Int}
def keyS (f:Ft):ByteArray:=⟨(keyL 5 f.t).toArray⟩
abbrev idA (f:Ft):AV:=.agg [sv (keyS f),iv f.fr,iv f.to]
theorem Of_ok (f:Ft)(hf:f.wf)(hm:mayT f.t=true):PF 256 [ftA f] (idA f):=by
 have hz:=((qfA f.t).1 hm).2.2
 refine qI Tryz.func256 E Tryz.ntmps256 zL fun c hL hQ hDD=>(qd (qb (qt E E zD (q6 1 E E E) E (qt E E zD (qat 2 E qkd E) E (zK (qd ?_))))));refine qX 5 mixed E E E E (zU E (qe E qbh E) (zU E (qi E qz E E E E E) (zU E (qai (avs:=[_]) true E qk4 E E (Key_ok 5 f.t (qbN hm) (qdd hm) hf.1 zO) (fun _=>rfl) E) (zU E (qe E qct E) (zU E (qi E qav E E E E E) ?_)))))
 refine qaq ⟨rfl,rfl,?_⟩;refine zA E (qaF E qkd E qoV E E) (qT E E E qki E E E E E E E E E (zK (qn (zI hL (qaS qki E E E qh) ?_ ?_))))
 ·rfl
 exact ⟨rfl,rfl⟩
theorem qkT:Keyed Tryz.prog 269:=Keyed.of_law (deep_law_laid qgA (m:=3) (by omega) (of_decide_eq_true (by kernel_rfl)) (by kernel_rfl) (by kernel_rfl))
def qn1 (f:Ft):Lit:=.string (keyBytes [.string (keyS f).data.toList,.int .i64 f.fr,.int .i64 f.to])
abbrev idV (f:Ft):Value:=.agg #[.string (keyS f),.int .i64 f.fr,.int .i64 f.to]
noncomputable def idFs:Array Field:=match Tryz.prog.underlying 269 with|some (.struct fs)=>fs|_=>#[]
theorem idFs_u:Tryz.prog.underlying 269=some (.struct idFs):=by kernel_rfl
theorem idFs_l:idFs.toList.map (fun f=>(f.type,f.offset))=[(9,0),(53,1)]:=by kernel_rfl
theorem idFs_a:idFs.all (·.name != "_")=true:=by kernel_rfl
noncomputable def spFs:Array Field:=match Tryz.prog.underlying 53 with|some (.struct fs)=>fs|_=>#[]
theorem spFs_u:Tryz.prog.underlying 53=some (.struct spFs):=by kernel_rfl
theorem spFs_l:spFs.toList.map (fun f=>(f.type,f.offset))=[(3,0),(3,1)]:=by kernel_rfl
theorem spFs_a:spFs.all (·.name != "_")=true:=by kernel_rfl
theorem qnT {α:Type}(g:TypeId→Nat→Option α)(l:List Field):l.mapM (fun f=>g f.type f.offset)=(l.map fun f=>(f.type,f.offset)).mapM fun p=>g p.1 p.2:=by
 induction l with
 | nil=>rfl
 | cons a l ih=>simp only [List.map_cons,List.mapM_cons,ih]
theorem i64_wf (h:i64 n):(Lit.int .i64 n).wf=true:=by
 simp only [i64] at h
 simp [Lit.wf,IntKind.min,IntKind.max,IntKind.signed,IntKind.bits]
 omega
theorem qkS (d:Nat)(h:i64 n):Tryz.prog.keyLits (d+1) 3 [.int .i64 n]=some [.int .i64 n]:=by
 unfold Program.keyLits;rw [qfR]
 simp [i64_wf h]
theorem qo6 (d:Nat){s:ByteArray}(h:s.size≤maxLen):Tryz.prog.keyLits (d+1) 9 [.string s]=some [.string s.data.toList]:=by
 unfold Program.keyLits;rw [qbA]
 simp [h]
theorem qnY (d:Nat){a b:Int}(h1:i64 a)(h2:i64 b):Tryz.prog.keyLits (d+2) 53 [.int .i64 a,.int .i64 b]=some [.int .i64 a,.int .i64 b]:=by
 unfold Program.keyLits;rw [spFs_u]
 simp only
 rw [if_pos ⟨by kernel_rfl,spFs_a⟩,qnT (fun t o=>Tryz.prog.keyLits (d+1) t (([Value.int .i64 a,.int .i64 b].drop o).take (Tryz.prog.cellsOf t))),spFs_l]
 have e:Tryz.prog.cellsOf 3=1:=by kernel_rfl
 simp only [List.mapM_cons,List.mapM_nil,e,List.drop_zero,List.drop_succ_cons,List.take_succ_cons,List.take_zero,qkS d h1,qkS d h2]
 rfl
theorem qq3 (d:Nat)(f:Ft)(hs:(keyS f).size≤maxLen)(h1:i64 f.fr)(h2:i64 f.to):Tryz.prog.keyLits (d+3) 269 [.string (keyS f),.int .i64 f.fr,.int .i64 f.to]=some [.string (keyS f).data.toList,.int .i64 f.fr,.int .i64 f.to]:=by
 unfold Program.keyLits;rw [idFs_u]
 simp only
 rw [if_pos ⟨by kernel_rfl,idFs_a⟩,qnT (fun t o=>Tryz.prog.keyLits (d+2) t (([Value.string (keyS f),.int .i64 f.fr,.int .i64 f.to].drop o).take (Tryz.prog.cellsOf t))),idFs_l]
 have e:Tryz.prog.cellsOf 9=1:=by kernel_rfl
 have e2:Tryz.prog.cellsOf 53=2:=by kernel_rfl
 simp only [List.mapM_cons,List.mapM_nil,e,e2,List.drop_zero,List.drop_succ_cons,List.take_succ_cons,List.take_zero,qo6 (d+1) hs,qnY d h1 h2]
 rfl
theorem keyOf_ID (f:Ft)(hs:(keyS f).size≤maxLen)(h1:i64 f.fr)(h2:i64 f.to):keyOf Tryz.prog 269 (idV f)=some (qn1 f):=by
 unfold keyOf
 rw [idFs_u]
 simp only
 rw [if_pos (by kernel_rfl)]
 have hn:Tryz.prog.types.size+1=(Tryz.prog.types.size-2)+3:=by kernel_rfl
 rw [hn]
 have:=qq3 (Tryz.prog.types.size-2) f hs h1 h2
 rw [show (idV f).cells.toList=[.string (keyS f),.int .i64 f.fr,.int .i64 f.to] from rfl,this]
 rfl
end Go.Proofs.YtpgceiijoedppaaGreat