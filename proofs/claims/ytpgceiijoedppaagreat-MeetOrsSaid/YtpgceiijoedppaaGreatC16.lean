/- Part 16 of the proof: Ff. -/
import Derived.Test.YtpgceiijoedppaaGreatC14
import Derived.Test.YtpgceiijoedppaaGreatC15
set_option linter.unusedVariables false
set_option linter.unusedSimpArgs false
set_option maxRecDepth 8000
namespace Go.Proofs.YtpgceiijoedppaaGreat
open Go
theorem qnS (d:Nat)(ih:∀ (t:Tm) (n:Int),0≤n→n≤24→((mayS d t n).1=true↔qbT d t≤n)∧((mayS d t n).1=true→(mayS d t n).2=n-qbT d t)):∀ (l:List Tm) (k n:Int),0≤k→k≤n→n≤24→((mayL (mayS d) l (n-k)).1=true↔qdp (qbT d) k l≤n)∧((mayL (mayS d) l (n-k)).1=true→(mayL (mayS d) l (n-k)).2=n-qdp (qbT d) k l)
 | [],k,n,h0,h1,h2=>by simp [mayL,qdp];omega
 | a::l,k,n,h0,h1,h2=>by
   have h3:=ih a (n-k) (by omega) (by omega)
   have h4:=qfy d a
   simp only [mayL,qdp]
   rw [if_pos (show k≤24 by omega)]
   by_cases hb:(mayS d a (n-k)).1=true
   ·rw [if_pos hb,h3.2 hb,show n-k-qbT d a=n-(k+qbT d a) by omega]
    exact qnS d ih l (k+qbT d a) n zO (by have:=h3.1.1 hb;omega) h2
   ·rw [if_neg hb]
    have h5:¬ qbT d a≤n-k:=fun h=>hb (h3.1.2 h)
    have h6:=qit (qbT d) (fun t=>by have:=qfy d t;omega) (k+qbT d a) l
    simp;omega
theorem qnR:∀ (d:Nat) (t:Tm) (n:Int),0≤n→n≤24→((mayS d t n).1=true↔qbT d t≤n)∧((mayS d t n).1=true→(mayS d t n).2=n-qbT d t)
 | 0,t,n,h0,h1=>by simp [mayS,qbT];omega
 | d+1,t,n,h0,h1=>by
   have hge:=qfy (d+1) t
   by_cases hn:n-1<0
   ·rw [mayS,if_pos hn];simp;omega
   rw [mayS,if_neg hn]
   by_cases k1:t.kind=1
   ·rw [if_pos k1,qbT,if_pos k1]
    simp only [Bool.and_eq_true,decide_eq_true_eq]
    split
    ·rename_i h;simp [h];omega
    ·rename_i h;refine ⟨⟨fun hh=>absurd ⟨hh.1.1,hh.1.2,hh.2⟩ h,fun hh=>by omega⟩,fun hh=>absurd ⟨hh.1.1,hh.1.2,hh.2⟩ h⟩
   rw [if_neg k1,qbT,if_neg k1]
   by_cases k2:t.kind=2
   ·rw [if_pos k2,if_pos k2]
    simp only [Bool.and_eq_true,decide_eq_true_eq,numB]
    split
    ·rename_i h;simp [h];omega
    ·rename_i h;refine ⟨⟨fun hh=>absurd ⟨hh.1.2,hh.1.1,hh.2⟩ h,fun hh=>by omega⟩,fun hh=>absurd ⟨hh.1.2,hh.1.1,hh.2⟩ h⟩
   rw [if_neg k2,if_neg k2]
   by_cases k3:t.kind=3
   ·rw [if_pos k3,if_pos k3]
    simp only [Bool.and_eq_true,decide_eq_true_eq]
    by_cases hc:(qnP t.name=true∧t.n=0)∧t.args.length≤4
    ·rw [if_pos hc]
     by_cases hd:0<t.args.length∧d=0
     ·rw [if_pos (by right;right;right;exact hd)]
      obtain ⟨h1',rfl⟩:=hd
      cases ha:t.args with
      | nil=>rw [ha] at h1';simp at h1'
      | cons a l=>simp [mayL,mayS];omega
     ·rw [if_neg (by
       rintro (h|h|h|h)
       ·rw [hc.1.1] at h;cases h
       ·exact h hc.1.2
       ·omega
       ·exact hd h)]
      exact qnS d (qnR d) t.args 1 n zO zO h1
    ·rw [if_neg hc,if_pos (by
      by_cases e1:qnP t.name=true
      ·by_cases e2:t.n=0
       ·right;right;left
        have:¬ t.args.length≤4:=fun h=>hc ⟨⟨e1,e2⟩,h⟩
        omega
       ·exact .inr (.inl e2)
      ·exact .inl (by simpa using e1))]
     simp;omega
   ·rw [if_neg k3,if_neg k3];simp;omega
theorem qsb (t:Tm):mayT t=decide (qbT 5 t≤24):=by
 have:=(qnR 5 t 24 (by omega) (by omega)).1
 rw [mayT,Bool.eq_iff_iff,this];simp
theorem qpW (t:Tm)(ht:t.wf):PF 95 [tmA false t] (bv (mayT t)):=by
 refine qI Tryz.func95 E Tryz.ntmps95 zL fun c hL hQ hDD=>(qd (qb (qt E E zD (q6 1 E E E) E (zX E (zK (qd ?_))))));refine qb (zA E (qF E qz E E E E) (qH (avs:=[_,_]) true E E E zD qdQ E E (rsize_ok 5 zO zO 5 E t ht) E E (zA E (qj E E E E) (zX E (zK (qn (zI hL (qg E qh) ?_ ?_)))))))
 ·rfl
 refine ⟨q7 ?_,rfl⟩
 rw [qsb]
theorem qdy {l:List ByteArray}{i:Nat}{s:ByteArray}(h:l[i]?=some s):(qc1 l)[i]?=some [.imm (.string s)]:=by simp [qc1,h]
theorem qqL (l:List ByteArray)(u:ByteArray):qc1 (l++[u])=qc1 l++[[.imm (.string u)]]:=by simp [qc1]
theorem qd0 (l:List ByteArray)(es:List (List D))(hes:es=qc1 l)(hl:l.length≤1000000):AC Tryz.prog 98 [.dat false 1 es] [] (fun r O=>r=.row 3∧O=[(3,.rowd 9 1 true (qc1 l))]):=by
 subst hes
 have hlen:=qbB l
 refine qI Tryz.func98 E Tryz.ntmps98 zL fun c hL hQ hDD=>(qd (qb (zX E (zK (qd (qb ?_))))));refine zX E (zK (qd (qd (qb (zX E (zK (qv (qac (l.length) (fun k=>k≤l.length) (fun k=>⟨[(0,.dat false 1 (qc1 l)),(3,.row 3),(4,iv (k:Int))],[(3,.rowd 9 1 true (qc1 (l.take k)))]⟩) zO ?_ (fun k hk hp=>?_)))))))))
 ·exact Sub.trans (qam (t:=3) (l:=3) 9 1 true E E) (qC (zC E (zC E (zC E SubT.nil))) (SubO.cons (qU E (by rfl)) SubO.nil) E E (noL' (noL hL) _))
 have hl2:=qbB (l.take k)
 have hl3:(l.take k).length≤l.length:=by simp;omega
 refine qd (qd (qb (zX E (zX E (zA E (qu E qaE E) (zA E (qj E E E E) (qc ?_)))))));refine qa (qo E (fun c0=>?_) (fun c0=>?_))
 ·simp only[↓cqA,cqB]at c0
  obtain ⟨u,hu⟩:=qM (l:=l) (k:=k) (by omega)
  refine qr (qa (qd (qv (qb (zX E (zX E (zX E ?_)))))));refine zA E (qp E qaE E E zO (qdy hu)) (zA E (qW E qar E) (qt E E zD (qaj 16 E qaE qfP E E zD zD zD E E E) E (qbW E E zD (qaU 17 qdb E E E E E E E E (noL hL _) zO E) E ?_)))
  refine zX E (qc (qR (qa (qb (zX E (zA E (qO E E E zO) (zX E ?_)))))));refine zK ?_;refine ⟨?_,?_,?_⟩
  ·omega
  ·omega
  exact Sub.trans (qZ 17 3 (noL hL _) (noL hL _)) (qC (zC E (zC E (zC E SubT.nil))) (SubO.cons (qU E (by rw [qas hu,qqL];rfl)) SubO.nil) E E (noL' (noL hL) _))
 simp only[↓cqA,cqB]at c0
 refine qV (qq (qq (qad ?_)));refine qa (qd (qb (zX E (zX E (zK (qn ?_))))))
 change retQ _ _ _ _ _ _ _
 refine retO (O':=[(3,_)]) (.inl E) (qg E qh) (SubO.cons E SubO.nil) ?_ ?_ (noL' (noL hL) _) ?_
 ·rfl
 ·rfl
 exact ⟨rfl,by rw [List.take_of_length_le zO]⟩
def ltS (a b:ByteArray):Bool:=Op.bytesLess a.toList b.toList
def posS (l:List ByteArray)(x:ByteArray):Nat:=(l.takeWhile (fun s=>ltS s x)).length
theorem qoT (x:ByteArray):∀ (l:List ByteArray) (k:Nat),k≤l.length→(∀ j s,j<k→l[j]?=some s→ltS s x=true)→(∀ s,l[k]?=some s→ltS s x=false)→posS l x=k
 | [],k,h,_,_=>by simp at h;subst h;rfl
 | a::l,0,_,_,h2=>by
   have:=h2 a (by simp)
   simp [posS,List.takeWhile_cons,this]
 | a::l,k+1,h,h1,h2=>by
   have h0:=h1 0 a (by omega) (by simp)
   have ih:=qoT x l k (by simpa using h) (fun j s hj hs=>h1 (j+1) s (by omega) (by simpa using hs)) (fun s hs=>h2 s (by simpa using hs))
   simp only [posS] at ih ⊢
   rw [List.takeWhile_cons,if_pos h0,List.length_cons,ih]
def qeg (l:List ByteArray)(x:ByteArray):List ByteArray:=if l[posS l x]?=some x then l else l.take (posS l x)++[x]++l.drop (posS l x)
def qbe (a b:List ByteArray):List ByteArray:=b.foldl qeg a
theorem qeB (a b:List ByteArray)(u:ByteArray):qbe a (b++[u])=qeg (qbe a b) u:=by simp [qbe]
theorem qo9 (l:List ByteArray)(x:ByteArray):(qeg l x).length≤l.length+1:=by
 unfold qeg
 split
 ·omega
 ·simp;omega
theorem qjg:∀ (b a:List ByteArray),(qbe a b).length≤a.length+b.length
 | [],a=>by simp [qbe]
 | x::b,a=>by
   have h1:=qjg b (qeg a x)
   have h2:=qo9 a x
   simp only [qbe,List.foldl_cons,List.length_cons] at h1 ⊢;omega
theorem qhv (l:List ByteArray)(k:Nat):(qc1 l).take k=qc1 (l.take k):=by simp [qc1,List.map_take]
theorem qiq (l:List ByteArray):∀ d∈qc1 l,d.length=1:=fun d hd=>by simp only [qc1,List.mem_map] at hd;obtain ⟨x,_,rfl⟩:=hd;rfl
theorem qrR (a b:List ByteArray)(ha:a.length+b.length≤1000000):PF 53 [.dat false 1 (qc1 a),.dat false 1 (qc1 b)] (.dat true 1 (qc1 (qbe a b))):=by
 have hla:=qbB a
 have hlb:=qbB b
 refine qI Tryz.func53 E Tryz.ntmps53 zL fun c hL hQ hDD=>(qd (qb (zX E (zK (qd (qb ?_))))));refine zX E (qbW E E zD (qbn (avs:=[_]) true E qbF E E (qd0 a _ E zO) (fun _=>rfl) E) E (zX E (zK (qd (qd (qbI (qaG (l:=3) E zD (noL hL _) E E) (qb (zX E (zK (qv (qac (b.length) (fun k=>k≤b.length) (fun k=>⟨[(1,.dat false 1 (qc1 b)),(5,.dat true 1 (qc1 (qbe a (b.take k)))),(6,iv (k:Int))],[]⟩) zO ?_ (fun k hk hp=>?_))))))))))))
 ·exact zR hL (zC E (zC E (zC E SubT.nil))) SubO.nil
 have hl1:=qjg (b.take k) a
 have hl2:(b.take k).length≤b.length:=by simp;omega
 have hl3:=qbB (qbe a (b.take k))
 refine qd (qd (qb (zX E (zX E (zA E (qu E qaE E) (zA E (qj E E E E) (qc ?_)))))));refine qa (qo E (fun c0=>?_) (fun c0=>?_))
 ·simp only[↓cqA,cqB]at c0
  obtain ⟨u,hu⟩:=qM (l:=b) (k:=k) (by omega)
  have hbk:(b.take (k+1)).length≤b.length:=by simp;omega
  refine qr (qa (qd (qv (qd (qb (zX E (qc ?_)))))));refine qa (qd (qv (qac ((qbe a (b.take k)).length) (fun i=>i≤(qbe a (b.take k)).length∧∀ j s,j<i→(qbe a (b.take k))[j]?=some s→ltS s u=true) (fun i=>⟨[(1,.dat false 1 (qc1 b)),(5,.dat true 1 (qc1 (qbe a (b.take k)))),(6,iv (k:Int)),(7,iv (i:Int))],[]⟩) (⟨by omega,fun j s hj=>absurd hj zO⟩) ?_ (fun i hi hpi=>?_))))
  ·exact zR hL (zC E (zC E (zC E (zC E SubT.nil)))) SubO.nil
  refine qd (qd ?_)
  rcases Bool.eq_false_or_eq_true (decide ((i:Int)<((qc1 (qbe a (b.take k))).length:Int))) with l19|l19
  ·have m19:=l19
   simp only[↓cqA,cqB]at m19
   obtain ⟨v,hv⟩:=qM (l:=qbe a (b.take k)) (k:=i) (by omega)
   refine qX 13 mixed E E E E (zU E (ql (.inl E) E) (zU E (ql (.inl E) E) (zU E (qu E qaE E) (zU E (qj (r:=.bool true) E E E (congrArg (fun b=>some (Value.bool b)) l19)) (zU E (ql (.inl E) E) (zQ E (ql (.inl E) E) (zQ E (ql (.inl E) E) (zQ E (qp E qaE E E zO (qdy hv)) ?_))))))))
   refine zQ E (qW E qar E) (zQ E (ql (.inl E) E) (zQ E (ql (.inl E) E) (zQ E (qp E qaE E E zO (qdy hu)) (zQ E (qW E qar E) ?_))))
   refine qaq ⟨rfl,rfl,?_⟩;refine zZ E (qcH E E E E) (zA E (qk E E E) (zK (qo E (fun c1=>?_) (fun c1=>?_))))
   ·refine qr (qa (qv (qb (zX E (zA E (qO E E E zO) (zX E (qc ?_)))))));refine qR (qa ?_);refine ⟨?_,?_,?_⟩
    ·omega
    ·refine ⟨by omega,fun j s hj hs=>?_⟩
     by_cases hji:j<i
     ·exact hpi.2 j s hji hs
     ·rw [show j=i by omega,hv] at hs;cases hs;exact c1
    exact zR hL (zC E (zC E (zC E (zC E SubT.nil)))) SubO.nil
   have hpos:posS (qbe a (b.take k)) u=i:=qoT u _ i hpi.1 hpi.2 (fun s hs=>by rw [hv] at hs;cases hs;exact c1)
   refine qV (qq (qq (qad ?_)));refine qa (qd (qd ?_))
   rcases Bool.eq_false_or_eq_true (decide ((i:Int)<((qc1 (qbe a (b.take k))).length:Int))) with l36|l36
   ·have m36:=l36
    simp only[↓cqA,cqB]at m36
    obtain ⟨v,hv⟩:=qM (l:=qbe a (b.take k)) (k:=i) (by omega)
    refine qX 13 mixed E E E E (zU E (ql (.inl E) E) (zU E (ql (.inl E) E) (zU E (qu E qaE E) (zU E (qj (r:=.bool true) E E E (congrArg (fun b=>some (Value.bool b)) l36)) (zU E (ql (.inl E) E) (zQ E (ql (.inl E) E) (zQ E (ql (.inl E) E) (zQ E (qp E qaE E E zO (qdy hv)) ?_))))))))
    refine zQ E (qW E qar E) (zQ E (ql (.inl E) E) (zQ E (ql (.inl E) E) (zQ E (qp E qaE E E zO (qdy hu)) (zQ E (qW E qar E) ?_))))
    refine qaq ⟨rfl,rfl,?_⟩;refine zZ E (qcH E E E E) (zA E (qk E E E) (zK (qo E (fun c2=>?_) (fun c2=>?_))))
    ·simp only[↓cqA,cqB]at c2
     have hins:qbe a (b.take (k+1))=qbe a (b.take k):=by rw [qas hu,qeB,qeg,hpos,if_pos (by rw [hv,c2])]
     refine qV (qq (qad ?_));refine qa (qb (zX E (zA E (qO E E E zO) (zX E (zK ?_)))));refine ⟨?_,?_,?_⟩
     ·omega
     ·omega
     exact zR hL (zC E (SubT.cons (qaw E (by first|(rw [hins];done)|(rw [hins2];show AV.dat true 1 _=AV.dat true 1 _;congr 1;simp [qc1,List.map_take,List.map_drop,List.take_of_length_le];done))) (zC E SubT.nil))) SubO.nil
    simp only[↓cqA,cqB]at c2
    have hno:¬ (qbe a (b.take k))[i]?=some u:=fun h=>by rw [hv] at h;exact c2 (Option.some.inj h)
    refine qr (qa ?_)
    have hins2:qbe a (b.take (k+1))=(qbe a (b.take k)).take i++[u]++(qbe a (b.take k)).drop i:=by rw [qas hu,qeB,qeg,hpos,if_neg hno]
    refine qX 13 mixed E E E E ?_;refine zU E (ql (.inl E) E) ?_;refine zU E (ql (.inl E) E) ?_;refine zU E (qb7 (i:=0) (j:=(i:Int)) E qaE E (fun y h=>by cases h) (fun _=>rfl) (fun y h=>by cases h;rfl) (fun h=>by cases h) zO zO zO) ?_
    refine qgO E E zD (qbn (avs:=[_]) true E qbF E E (qd0 ((qbe a (b.take k)).take i) _ (by simp [qhv]) (by simp;omega)) (fun _=>rfl) E) ?_;refine zU E (ql (.inl E) E) ?_;refine zU E (ql (.inl E) E) ?_;refine zU E (qp E qaE E E zO (qdy hu)) ?_;refine zU E (qW E qar E) ?_
    refine qhr E zD (.run E (qaj 56 E qaE qfP E E zD zD zD E E E)) ?_;refine qgO E E zD (qaU 57 qdb E E E E E E E E (noL hL _) (by rw [qbB,List.length_take];omega) E) ?_;refine zU E (ql (.inl E) E) ?_;refine zU E (ql (.inl E) E) ?_
    refine zU E (qb7 (i:=(i:Int)) (j:=((qc1 (qbe a (b.take k))).length:Int)) E qaE E (fun y h=>by cases h;rfl) (fun h=>by cases h) (fun y h=>by cases h) (fun _=>rfl) zO zO zO) ?_;refine qaq ⟨rfl,rfl,?_⟩;refine qbW E E zD (qd5 61 qdb E E E E E (noL hL _) (by intro d hd;exact qiq _ d (List.mem_of_mem_take (List.mem_of_mem_drop hd))) (by simp [qbB];omega) E) E ?_
    refine zX E (qab (qaG (l:=61) E zD (noL hL _) E E) (qc (qR (qa (qb (zX E (zA E (qO E E E zO) ?_)))))));refine zX E (zK ?_);refine ⟨?_,?_,?_⟩
    ·omega
    ·omega
    exact zR hL (zC E (SubT.cons (qaw E (by first|(rw [hins];done)|(rw [hins2];show AV.dat true 1 _=AV.dat true 1 _;congr 1;simp [qc1,List.map_take,List.map_drop,List.take_of_length_le];done))) (zC E SubT.nil))) SubO.nil
   have m36:=l36
   simp only[↓cqA,cqB]at m36
   have hno:¬ (qbe a (b.take k))[i]?=some u:=fun h=>by have:=(List.getElem?_eq_some_iff.1 h).1;omega
   refine qX 13 mixed E E E E (zU E (ql (.inl E) E) (zU E (ql (.inl E) E) (zU E (qu E qaE E) (zU E (qj (r:=.bool false) E E E (congrArg (fun b=>some (Value.bool b)) l36)) (zU E (ql (.inl E) E) (qf E zD (.skip rfl E E zD zD) (qf E zD (.skip rfl E E zD zD) ?_)))))))
   refine qf E zD (.skip rfl E E zD zD) (qf E zD (.skip rfl E E zD zD) (qf E zD (.skip rfl E E zD zD) (qf E zD (.skip rfl E E zD zD) (qf E zD (.skip rfl E E zD zD) ?_))))
   refine qf E zD (.skip rfl E E zD zD) (qaq ⟨rfl,rfl,?_⟩);refine zY E (zA E (qk E E E) (zK (qaA E (qr (qa ?_)))))
   have hins2:qbe a (b.take (k+1))=(qbe a (b.take k)).take i++[u]++(qbe a (b.take k)).drop i:=by rw [qas hu,qeB,qeg,hpos,if_neg hno]
   refine qX 13 mixed E E E E ?_;refine zU E (ql (.inl E) E) ?_;refine zU E (ql (.inl E) E) ?_;refine zU E (qb7 (i:=0) (j:=(i:Int)) E qaE E (fun y h=>by cases h) (fun _=>rfl) (fun y h=>by cases h;rfl) (fun h=>by cases h) zO zO zO) ?_
   refine qgO E E zD (qbn (avs:=[_]) true E qbF E E (qd0 ((qbe a (b.take k)).take i) _ (by simp [qhv]) (by simp;omega)) (fun _=>rfl) E) ?_;refine zU E (ql (.inl E) E) ?_;refine zU E (ql (.inl E) E) ?_;refine zU E (qp E qaE E E zO (qdy hu)) ?_;refine zU E (qW E qar E) ?_
   refine qhr E zD (.run E (qaj 56 E qaE qfP E E zD zD zD E E E)) ?_;refine qgO E E zD (qaU 57 qdb E E E E E E E E (noL hL _) (by rw [qbB,List.length_take];omega) E) ?_;refine zU E (ql (.inl E) E) ?_;refine zU E (ql (.inl E) E) ?_
   refine zU E (qb7 (i:=(i:Int)) (j:=((qc1 (qbe a (b.take k))).length:Int)) E qaE E (fun y h=>by cases h;rfl) (fun h=>by cases h) (fun y h=>by cases h) (fun _=>rfl) zO zO zO) ?_;refine qaq ⟨rfl,rfl,?_⟩;refine qbW E E zD (qd5 61 qdb E E E E E (noL hL _) (by intro d hd;exact qiq _ d (List.mem_of_mem_take (List.mem_of_mem_drop hd))) (by simp [qbB];omega) E) E ?_
   refine zX E (qab (qaG (l:=61) E zD (noL hL _) E E) (qc (qR (qa (qb (zX E (zA E (qO E E E zO) ?_)))))));refine zX E (zK ?_);refine ⟨?_,?_,?_⟩
   ·omega
   ·omega
   exact zR hL (zC E (SubT.cons (qaw E (by first|(rw [hins];done)|(rw [hins2];show AV.dat true 1 _=AV.dat true 1 _;congr 1;simp [qc1,List.map_take,List.map_drop,List.take_of_length_le];done))) (zC E SubT.nil))) SubO.nil
  have m19:=l19
  simp only[↓cqA,cqB]at m19
  have hpos:posS (qbe a (b.take k)) u=i:=qoT u _ i hpi.1 hpi.2 (fun s hs=>by have:=(List.getElem?_eq_some_iff.1 hs).1;omega)
  refine qX 13 mixed E E E E (zU E (ql (.inl E) E) (zU E (ql (.inl E) E) (zU E (qu E qaE E) (zU E (qj (r:=.bool false) E E E (congrArg (fun b=>some (Value.bool b)) l19)) (zU E (ql (.inl E) E) (qf E zD (.skip rfl E E zD zD) (qf E zD (.skip rfl E E zD zD) ?_)))))))
  refine qf E zD (.skip rfl E E zD zD) (qf E zD (.skip rfl E E zD zD) (qf E zD (.skip rfl E E zD zD) (qf E zD (.skip rfl E E zD zD) (qf E zD (.skip rfl E E zD zD) ?_))))
  refine qf E zD (.skip rfl E E zD zD) (qaq ⟨rfl,rfl,?_⟩);refine zY E (zA E (qk E E E) (zK (qaA E (qV (qq (qq (qad ?_)))))));refine qa (qd (qd ?_))
  rcases Bool.eq_false_or_eq_true (decide ((i:Int)<((qc1 (qbe a (b.take k))).length:Int))) with l36|l36
  ·have m36:=l36
   simp only[↓cqA,cqB]at m36
   obtain ⟨v,hv⟩:=qM (l:=qbe a (b.take k)) (k:=i) (by omega)
   refine qX 13 mixed E E E E (zU E (ql (.inl E) E) (zU E (ql (.inl E) E) (zU E (qu E qaE E) (zU E (qj (r:=.bool true) E E E (congrArg (fun b=>some (Value.bool b)) l36)) (zU E (ql (.inl E) E) (zQ E (ql (.inl E) E) (zQ E (ql (.inl E) E) (zQ E (qp E qaE E E zO (qdy hv)) ?_))))))))
   refine zQ E (qW E qar E) (zQ E (ql (.inl E) E) (zQ E (ql (.inl E) E) (zQ E (qp E qaE E E zO (qdy hu)) (zQ E (qW E qar E) ?_))))
   refine qaq ⟨rfl,rfl,?_⟩;refine zZ E (qcH E E E E) (zA E (qk E E E) (zK (qo E (fun c2=>?_) (fun c2=>?_))))
   ·simp only[↓cqA,cqB]at c2
    have hins:qbe a (b.take (k+1))=qbe a (b.take k):=by rw [qas hu,qeB,qeg,hpos,if_pos (by rw [hv,c2])]
    refine qV (qq (qad ?_));refine qa (qb (zX E (zA E (qO E E E zO) (zX E (zK ?_)))));refine ⟨?_,?_,?_⟩
    ·omega
    ·omega
    exact zR hL (zC E (SubT.cons (qaw E (by first|(rw [hins];done)|(rw [hins2];show AV.dat true 1 _=AV.dat true 1 _;congr 1;simp [qc1,List.map_take,List.map_drop,List.take_of_length_le];done))) (zC E SubT.nil))) SubO.nil
   simp only[↓cqA,cqB]at c2
   have hno:¬ (qbe a (b.take k))[i]?=some u:=fun h=>by rw [hv] at h;exact c2 (Option.some.inj h)
   refine qr (qa ?_)
   have hins2:qbe a (b.take (k+1))=(qbe a (b.take k)).take i++[u]++(qbe a (b.take k)).drop i:=by rw [qas hu,qeB,qeg,hpos,if_neg hno]
   refine qX 13 mixed E E E E ?_;refine zU E (ql (.inl E) E) ?_;refine zU E (ql (.inl E) E) ?_;refine zU E (qb7 (i:=0) (j:=(i:Int)) E qaE E (fun y h=>by cases h) (fun _=>rfl) (fun y h=>by cases h;rfl) (fun h=>by cases h) zO zO zO) ?_
   refine qgO E E zD (qbn (avs:=[_]) true E qbF E E (qd0 ((qbe a (b.take k)).take i) _ (by simp [qhv]) (by simp;omega)) (fun _=>rfl) E) ?_;refine zU E (ql (.inl E) E) ?_;refine zU E (ql (.inl E) E) ?_;refine zU E (qp E qaE E E zO (qdy hu)) ?_;refine zU E (qW E qar E) ?_
   refine qhr E zD (.run E (qaj 56 E qaE qfP E E zD zD zD E E E)) ?_;refine qgO E E zD (qaU 57 qdb E E E E E E E E (noL hL _) (by rw [qbB,List.length_take];omega) E) ?_;refine zU E (ql (.inl E) E) ?_;refine zU E (ql (.inl E) E) ?_
   refine zU E (qb7 (i:=(i:Int)) (j:=((qc1 (qbe a (b.take k))).length:Int)) E qaE E (fun y h=>by cases h;rfl) (fun h=>by cases h) (fun y h=>by cases h) (fun _=>rfl) zO zO zO) ?_;refine qaq ⟨rfl,rfl,?_⟩;refine qbW E E zD (qd5 61 qdb E E E E E (noL hL _) (by intro d hd;exact qiq _ d (List.mem_of_mem_take (List.mem_of_mem_drop hd))) (by simp [qbB];omega) E) E ?_
   refine zX E (qab (qaG (l:=61) E zD (noL hL _) E E) (qc (qR (qa (qb (zX E (zA E (qO E E E zO) ?_)))))));refine zX E (zK ?_);refine ⟨?_,?_,?_⟩
   ·omega
   ·omega
   exact zR hL (zC E (SubT.cons (qaw E (by first|(rw [hins];done)|(rw [hins2];show AV.dat true 1 _=AV.dat true 1 _;congr 1;simp [qc1,List.map_take,List.map_drop,List.take_of_length_le];done))) (zC E SubT.nil))) SubO.nil
  have m36:=l36
  simp only[↓cqA,cqB]at m36
  have hno:¬ (qbe a (b.take k))[i]?=some u:=fun h=>by have:=(List.getElem?_eq_some_iff.1 h).1;omega
  refine qX 13 mixed E E E E (zU E (ql (.inl E) E) (zU E (ql (.inl E) E) (zU E (qu E qaE E) (zU E (qj (r:=.bool false) E E E (congrArg (fun b=>some (Value.bool b)) l36)) (zU E (ql (.inl E) E) (qf E zD (.skip rfl E E zD zD) (qf E zD (.skip rfl E E zD zD) ?_)))))))
  refine qf E zD (.skip rfl E E zD zD) (qf E zD (.skip rfl E E zD zD) (qf E zD (.skip rfl E E zD zD) (qf E zD (.skip rfl E E zD zD) (qf E zD (.skip rfl E E zD zD) ?_))))
  refine qf E zD (.skip rfl E E zD zD) (qaq ⟨rfl,rfl,?_⟩);refine zY E (zA E (qk E E E) (zK (qaA E (qr (qa ?_)))))
  have hins2:qbe a (b.take (k+1))=(qbe a (b.take k)).take i++[u]++(qbe a (b.take k)).drop i:=by rw [qas hu,qeB,qeg,hpos,if_neg hno]
  refine qX 13 mixed E E E E ?_;refine zU E (ql (.inl E) E) ?_;refine zU E (ql (.inl E) E) ?_;refine zU E (qb7 (i:=0) (j:=(i:Int)) E qaE E (fun y h=>by cases h) (fun _=>rfl) (fun y h=>by cases h;rfl) (fun h=>by cases h) zO zO zO) ?_
  refine qgO E E zD (qbn (avs:=[_]) true E qbF E E (qd0 ((qbe a (b.take k)).take i) _ (by simp [qhv]) (by simp;omega)) (fun _=>rfl) E) ?_;refine zU E (ql (.inl E) E) ?_;refine zU E (ql (.inl E) E) ?_;refine zU E (qp E qaE E E zO (qdy hu)) ?_;refine zU E (qW E qar E) ?_
  refine qhr E zD (.run E (qaj 56 E qaE qfP E E zD zD zD E E E)) ?_;refine qgO E E zD (qaU 57 qdb E E E E E E E E (noL hL _) (by rw [qbB,List.length_take];omega) E) ?_;refine zU E (ql (.inl E) E) ?_;refine zU E (ql (.inl E) E) ?_
  refine zU E (qb7 (i:=(i:Int)) (j:=((qc1 (qbe a (b.take k))).length:Int)) E qaE E (fun y h=>by cases h;rfl) (fun h=>by cases h) (fun y h=>by cases h) (fun _=>rfl) zO zO zO) ?_;refine qaq ⟨rfl,rfl,?_⟩;refine qbW E E zD (qd5 61 qdb E E E E E (noL hL _) (by intro d hd;exact qiq _ d (List.mem_of_mem_take (List.mem_of_mem_drop hd))) (by simp [qbB];omega) E) E ?_
  refine zX E (qab (qaG (l:=61) E zD (noL hL _) E E) (qc (qR (qa (qb (zX E (zA E (qO E E E zO) ?_)))))));refine zX E (zK ?_);refine ⟨?_,?_,?_⟩
  ·omega
  ·omega
  exact zR hL (zC E (SubT.cons (qaw E (by first|(rw [hins];done)|(rw [hins2];show AV.dat true 1 _=AV.dat true 1 _;congr 1;simp [qc1,List.map_take,List.map_drop,List.take_of_length_le];done))) (zC E SubT.nil))) SubO.nil
 simp only[↓cqA,cqB]at c0
 refine qV (qq (qq (qad ?_)));refine qa (qd (qb (zX E (zX E (zK (qn (zI hL (qg E qh) ?_ ?_)))))))
 ·rfl
 exact ⟨by rw [List.take_of_length_le zO];rfl,rfl⟩
end Go.Proofs.YtpgceiijoedppaaGreat