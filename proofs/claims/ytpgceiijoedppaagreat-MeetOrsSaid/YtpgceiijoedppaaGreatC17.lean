/- Part 17 of the proof: Fg. -/
import Derived.Test.YtpgceiijoedppaaGreatC16
set_option linter.unusedVariables false
set_option linter.unusedSimpArgs false
set_option maxRecDepth 8000
namespace Go.Proofs.YtpgceiijoedppaaGreat
open Go
def qgZ:Nat→Tm→List ByteArray
 | 0,_=>[]
 | d+1,t=>if t.kind=1 then [t.name] else t.args.foldl (fun acc u=>qbe acc (qgZ d u)) []
theorem qkg (d:Nat)(ih:∀ t,(qgZ d t).length≤qeA d t):∀ (l:List Tm) (acc:List ByteArray),(l.foldl (fun acc u=>qbe acc (qgZ d u)) acc).length≤acc.length+(l.map (qeA d)).sum
 | [],acc=>by simp
 | a::l,acc=>by
   have h1:=qkg d ih l (qbe acc (qgZ d a))
   have h2:=qjg (qgZ d a) acc
   have h3:=ih a
   simp only [List.foldl_cons,List.map_cons,List.sum_cons];omega
theorem qkf:∀ (d:Nat) (t:Tm),(qgZ d t).length≤qeA d t
 | 0,t=>by simp [qgZ,qeA]
 | d+1,t=>by
   have:=qkg d (qkf d) t.args []
   simp only [qgZ,qeA]
   split
   ·simp
   ·simp only [List.length_nil] at this;omega
theorem qpV:∀ (d:Nat) (t:Tm),dle d t→t.wf→qeA d t≤1000000→PF 52 [tmA false t] (.dat true 1 (qc1 (qgZ d t)))
 | 0,t,h,_,_=>h.elim
 | d+1,t,h,ht,hn=>by
   have hlen:=qaY t.args
   have hal:=ht.2.2.2.1
   simp only [qeA] at hn
   refine qI Tryz.func52 E Tryz.ntmps52 zL fun c hL hQ hDD=>(qd (qb (qt E E zD (q6 1 E E E) E (zX E (zK (qd ?_))))));refine qd (qb (zA E (qe E qaL E) (zA E (qi E qQ E E E E E) (zA E (qj E E E E) (zK (qo E (fun c0=>?_) (fun c0=>?_)))))))
   ·simp only[↓cqA,cqB]at c0
    refine qd (qb (zA E (qe E qay E) (zA E (qi E qar E E E E E) (qt E E zD (qaj 10 E qaE qfP E E zD zD zD E E E) E (zX E (qcE 10 true 1 E E E E (qab (qaG (l:=10) E zD (noL hL _) E E) ?_)))))));refine zK (qn (qm (zI hL (qg E qh) ?_ ?_)))
    ·rfl
    exact ⟨by rw [qgZ,if_pos c0];rfl,rfl⟩
   simp only[↓cqA,cqB]at c0
   refine qr (qa (qd (qb (zX E (zK (qd ?_))))));refine qd (qb (zX E (zK (qv (qac (t.args.length) (fun k=>k≤t.args.length) (fun k=>⟨[(1,.ptr 1 0),(3,.dat true 1 (qc1 ((t.args.take k).foldl (fun acc u=>qbe acc (qgZ d u)) []))),(4,iv (k:Int))],[(1,.box (lift false (tmD t)))]⟩) zO ?_ (fun k hk hp=>?_))))))
   ·exact Sub.trans (qdx (t:=3) 1 true E) (qC (zC E (zC E (zC E SubT.nil))) (SubO.cons (qU E (by rfl)) SubO.nil) E E (noL' (noL hL) _))
   refine qd (qd (qb (zX E (zA E (qe E qaa E) (zA E (qi E q9 E E E E E) (zA E (qu E qN E) (zA E (qj E E E E) ?_)))))));refine zK (qo E (fun c1=>?_) (fun c1=>?_))
   ·simp only[↓cqA,cqB]at c1
    obtain ⟨u,hu⟩:=qM (l:=t.args) (k:=k) (by omega)
    have hum:=List.mem_of_getElem? hu
    have hs1:=qkg d (qkf d) (t.args.take k) []
    have hs2:=qfi (qeA d) hu
    have hs3:=qkf d u
    simp only [List.length_nil] at hs1
    refine qr (qa (qd (qv (qb (zX E (zA E (qe E qaa E) (zA E (qi E q9 E E E E E) ?_)))))));refine zX E (zA E (qp E qN E E zO (qbP hu)) (zA E (qD E qz E E) (qH (avs:=[_]) true E E E zD qe2 E E (qpV d u (h u hum) (Tm.wfs_mem ht.2.2.2.2 hum) zO) E E (qH (avs:=[_,_]) true E E E zD qhh E E (qrR _ _ zO) E E (zX E (qc ?_))))))
    refine qR (qa (qb (zX E (zA E (qO E E E zO) (zX E (zK ?_))))));refine ⟨?_,?_,?_⟩
    ·omega
    ·omega
    exact zR hL (zC E (SubT.cons (qaw E (by rw [qas hu,List.foldl_append];rfl)) (zC E SubT.nil))) (SubO.cons (qU E (by rfl)) SubO.nil)
   simp only[↓cqA,cqB]at c1
   refine qV (qq (qq (qad ?_)));refine qa (qd (qb (zX E (zX E (zK (qn (zI hL (qg E qh) ?_ ?_)))))))
   ·rfl
   exact ⟨by rw [qgZ,if_neg c0,List.take_of_length_le zO];rfl,rfl⟩
theorem qo8 (l:List ByteArray)(x y:ByteArray):y∈qeg l x↔y∈l∨y=x:=by
 unfold qeg
 split
 ·rename_i h
  have:=List.mem_of_getElem? h
  constructor
  ·exact .inl
  ·rintro (h|rfl)
   ·exact h
   ·exact this
 ·have e:y∈l↔y∈l.take (posS l x)∨y∈l.drop (posS l x):=by
   rw [← List.mem_append,List.take_append_drop]
  simp only [List.mem_append,List.mem_singleton,e]
  constructor
  ·rintro ((h|h)|h)<;>simp [h]
  ·rintro ((h|h)|h)<;>simp [h]
theorem qlY (y:ByteArray):∀ (b a:List ByteArray),y∈qbe a b↔y∈a∨y∈b
 | [],a=>by simp [qbe]
 | x::b,a=>by
   have:=qlY y b (qeg a x)
   simp only [qbe,List.foldl_cons] at this ⊢
   rw [this,qo8,List.mem_cons]
   constructor
   ·rintro ((h|h)|h)<;>simp [h]
   ·rintro (h|h|h)<;>simp [h]
def vok:Nat→Tm→Prop
 | 0,_=>True
 | d+1,t=>(t.kind=1→t.args=[])∧∀ u,u∈t.args→vok d u
theorem qha (d:Nat)(y:ByteArray)(ih:∀ (t:Tm) (ss:List ByteArray),y∈qdW d t ss↔y∈ss∨y∈qdW d t []):∀ (l:List Tm) (ss:List ByteArray),y∈l.foldl (fun s u=>qdW d u s) ss↔y∈ss∨∃ u,u∈l∧y∈qdW d u []
 | [],ss=>by simp
 | a::l,ss=>by
   simp only [List.foldl_cons]
   rw [qha d y ih l (qdW d a ss),ih a ss]
   constructor
   ·rintro ((h|h)|⟨u,h1,h2⟩)
    ·exact .inl h
    ·exact .inr ⟨a,by simp,h⟩
    ·exact .inr ⟨u,by simp [h1],h2⟩
   ·rintro (h|⟨u,h1,h2⟩)
    ·exact .inl (.inl h)
    ·rcases List.mem_cons.1 h1 with rfl|h1
     ·exact .inl (.inr h2)
     ·exact .inr ⟨u,h1,h2⟩
theorem qiE:∀ (d:Nat) (y:ByteArray) (t:Tm) (ss:List ByteArray),y∈qdW d t ss↔y∈ss∨y∈qdW d t []
 | 0,y,t,ss=>by simp [qdW]
 | d+1,y,t,ss=>by
   simp only [qdW]
   rw [qha d y (qiE d y),qha d y (qiE d y) t.args (if t.kind=1 then t.name::[] else [])]
   split
   ·simp only [List.mem_cons,List.not_mem_nil,or_false]
    constructor
    ·rintro ((h|h)|h)<;>simp [h]
    ·rintro (h|h|h)<;>simp [h]
   ·simp
theorem qnq (d:Nat)(y:ByteArray):∀ (l:List Tm) (acc:List ByteArray),y∈l.foldl (fun acc u=>qbe acc (qgZ d u)) acc↔y∈acc∨∃ u,u∈l∧y∈qgZ d u
 | [],acc=>by simp
 | a::l,acc=>by
   simp only [List.foldl_cons]
   rw [qnq d y l,qlY]
   constructor
   ·rintro ((h|h)|⟨u,h1,h2⟩)
    ·exact .inl h
    ·exact .inr ⟨a,by simp,h⟩
    ·exact .inr ⟨u,by simp [h1],h2⟩
   ·rintro (h|⟨u,h1,h2⟩)
    ·exact .inl (.inl h)
    ·rcases List.mem_cons.1 h1 with rfl|h1
     ·exact .inl (.inr h2)
     ·exact .inr ⟨u,h1,h2⟩
theorem qht:∀ (d:Nat) (y:ByteArray) (t:Tm),vok d t→(y∈qgZ d t↔y∈qdW d t [])
 | 0,y,t,_=>by simp [qgZ,qdW]
 | d+1,y,t,h=>by
   simp only [qgZ,qdW]
   rw [qha d y (qiE d y)]
   split
   ·rename_i hk
    rw [h.1 hk];simp
   ·rw [qnq]
    constructor
    ·rintro (h1|⟨u,h1,h2⟩)
     ·simp at h1
     ·exact .inr ⟨u,h1,(qht d y u (h.2 u h1)).1 h2⟩
    ·rintro (h1|⟨u,h1,h2⟩)
     ·simp at h1
     ·exact .inr ⟨u,h1,(qht d y u (h.2 u h1)).2 h2⟩
theorem qp9 (d:Nat)(ih:∀ (t:Tm) (n:Int),(mayS d t n).1=true→vok d t):∀ (l:List Tm) (n:Int),(mayL (mayS d) l n).1=true→∀ u,u∈l→vok d u
 | [],n,_,u,hu=>by simp at hu
 | a::l,n,h,u,hu=>by
   simp only [mayL] at h
   split at h
   ·rename_i hb
    rcases List.mem_cons.1 hu with rfl|hu
    ·exact ih _ n hb
    ·exact qp9 d ih l _ h u hu
   ·cases h
theorem qp5:∀ (d:Nat) (t:Tm) (n:Int),(mayS d t n).1=true→vok d t
 | 0,t,n,h=>trivial
 | d+1,t,n,h=>by
   have e0:∀ l:List Tm,l.length=0→l=[]:=fun l h=>List.eq_nil_of_length_eq_zero h
   simp only [mayS] at h
   split at h
   ·cases h
   split at h
   ·simp only [Bool.and_eq_true,decide_eq_true_eq] at h
    have:=e0 _ h.2
    simp [vok,this]
   rename_i k1
   split at h
   ·simp only [Bool.and_eq_true,decide_eq_true_eq] at h
    have:=e0 _ h.2
    simp [vok,this]
   split at h
   ·split at h
    ·exact ⟨fun hk=>absurd hk k1,qp9 d (qp5 d) t.args (n-1) h⟩
    ·cases h
   ·cases h
theorem qqT (t:Tm)(ht:t.wf)(hm:mayT t=true):PF 56 [tmA false t] (bv (qfJ t)):=by
 obtain ⟨h1,h2⟩:=qgy hm
 have hv:=qp5 5 t 24 hm
 refine qI Tryz.func56 E Tryz.ntmps56 zL fun c hL hQ hDD=>(qd (qb (qt E E zD (q6 1 E E E) E (zX E (zK (qd ?_))))));refine qb (zA E (qF E qz E E E E) (qH (avs:=[_]) true E E E zD qe2 E E (qpV 5 t h1 ht zO) E E (zA E (qu E qaE E) (zA E (qj E E E E) (zX E (zK (qn (zI hL (qg E qh) ?_ ?_))))))))
 ·rfl
 refine ⟨q7 ?_,rfl⟩
 rw [qbB,qeW,qfJ,Bool.eq_iff_iff,decide_eq_true_eq,List.length_eq_zero_iff,List.isEmpty_iff]
 constructor
 ·intro h;exact List.eq_nil_iff_forall_not_mem.2 fun s hs=>by have:=(qht 5 s t hv).2 hs;rw [h] at this;simp at this
 ·intro h;exact List.eq_nil_iff_forall_not_mem.2 fun s hs=>by have:=(qht 5 s t hv).1 hs;rw [h] at this;simp at this
theorem qmA (x y:Int):PF 221 [iv x,iv y] (iv (cmpI x y)):=by
 refine qI Tryz.func221 E Tryz.ntmps221 zL fun c hL hQ hDD=>(qd (qb (zX E (zK (qd (qv ?_))))));refine qd (qb (zX E (zX E (zA E (qj E E E E) (zX E (zK (qo E (fun c0=>?_) (fun c0=>?_))))))))
 ·simp only[↓cqA,cqB]at c0
  refine qd (qb (zX E (zK (qn (qP (qm (zI hL (qg E qh) ?_ ?_)))))))
  ·rfl
  refine ⟨qbx ?_,rfl⟩
  simp only [cmpI];split<;>(try split)<;>omega
 simp only[↓cqA,cqB]at c0
 refine qd (qb (zX E (zX E (zA E (qj E E E E) (zX E (zK ?_))))));refine qo E (fun c1=>?_) (fun c1=>?_)
 ·simp only[↓cqA,cqB]at c1
  refine qd (qb (zX E (zK (qn (qP (qm (zI hL (qg E qh) ?_ ?_)))))))
  ·rfl
  refine ⟨qbx ?_,rfl⟩
  simp only [cmpI];split<;>(try split)<;>omega
 simp only[↓cqA,cqB]at c1
 refine qr (qR (qa (qd (qb (zX E (zK ?_))))));refine qn (zI hL (qg E qh) ?_ ?_)
 ·rfl
 refine ⟨qbx ?_,rfl⟩
 simp only [cmpI];split<;>(try split)<;>omega
end Go.Proofs.YtpgceiijoedppaaGreat