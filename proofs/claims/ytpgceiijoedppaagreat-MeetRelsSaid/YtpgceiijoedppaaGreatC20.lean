/- Part 20 of the proof: Fo, Fp, Fq. -/
import Derived.Test.YtpgceiijoedppaaGreatC19
set_option linter.unusedVariables false
set_option linter.unusedSimpArgs false
set_option maxRecDepth 8000
namespace Go.Proofs.YtpgceiijoedppaaGreat
open Go
variable {j:Nat}{l:List Bd}{s:ByteArray}{t:Tm}{α:Type}
theorem qoq:∀ l:List UInt8,Op.bytesLess l l=false
 | []=>rfl
 | x::l=>by simp [Op.bytesLess,qoq l]
theorem qqy:∀ a b c:List UInt8,Op.bytesLess a b=true→Op.bytesLess b c=true→Op.bytesLess a c=true
 | [],_,[],_,h2=>by cases ‹List UInt8›<;>simp [Op.bytesLess] at h2
 | [],_,_::_,_,_=>by simp [Op.bytesLess]
 | _::_,[],_,h1,_=>by simp [Op.bytesLess] at h1
 | _::_,_::_,[],_,h2=>by simp [Op.bytesLess] at h2
 | x::a,y::b,z::c,h1,h2=>by
   have ih:=qqy a b c
   simp only [Op.bytesLess,Bool.or_eq_true,decide_eq_true_eq,Bool.and_eq_true,beq_iff_eq] at h1 h2 ⊢
   rcases h1 with h1|⟨rfl,h1⟩
   ·rcases h2 with h2|⟨rfl,h2⟩
    ·exact .inl (UInt8.lt_trans h1 h2)
    ·exact .inl h1
   ·rcases h2 with h2|⟨rfl,h2⟩
    ·exact .inl h2
    ·exact .inr ⟨rfl,ih h1 h2⟩
theorem bl_tri:∀ a b:List UInt8,Op.bytesLess a b=true∨a=b∨Op.bytesLess b a=true
 | [],[]=>.inr (.inl E)
 | [],_::_=>.inl (by simp [Op.bytesLess])
 | _::_,[]=>.inr (.inr (by simp [Op.bytesLess]))
 | x::a,y::b=>by
   have ih:=bl_tri a b
   simp only [Op.bytesLess,Bool.or_eq_true,decide_eq_true_eq,Bool.and_eq_true,beq_iff_eq,List.cons.injEq]
   rcases Nat.lt_trichotomy x.toNat y.toNat with h|h|h
   ·exact .inl (.inl (UInt8.lt_iff_toNat_lt.2 h))
   ·have:=UInt8.toNat_inj.1 h;subst this
    rcases ih with h|h|h
    ·exact .inl (.inr ⟨rfl,h⟩)
    ·exact .inr (.inl ⟨rfl,h⟩)
    ·exact .inr (.inr (.inr ⟨rfl,h⟩))
   ·exact .inr (.inr (.inl (UInt8.lt_iff_toNat_lt.2 h)))
theorem qhC (a:ByteArray):ltS a a=false:=qoq _
theorem qnW {a b c:ByteArray}(h1:ltS a b=true)(h2:ltS b c=true):ltS a c=true:=qqy _ _ _ h1 h2
theorem ltS_tri (a b:ByteArray):ltS a b=true∨a=b∨ltS b a=true:=by
 rcases bl_tri a.toList b.toList with h|h|h
 ·exact .inl h
 ·exact .inr (.inl (toList_inj.1 h))
 ·exact .inr (.inr h)
theorem qqu (a b:ByteArray):cmpS a b<0↔ltS a b=true:=by
 rw [qhj];split
 ·simp_all
 ·split<;>simp_all
def RisB (l:List Bd):Prop:=l.Pairwise (fun a b=>ltS a.name b.name=true)
def posB (l:List Bd)(s:ByteArray):Nat:=(l.takeWhile (fun b=>ltS b.name s)).length
def qeX (l:List Bd)(s:ByteArray):Option Tm:=(l.find? (fun b=>decide (b.name=s))).map Bd.t
def hasB (l:List Bd)(s:ByteArray):Bool:=l.any (fun b=>decide (b.name=s))
theorem qgv (l:List Bd)(s:ByteArray):posB l s≤l.length:=(List.takeWhile_prefix _).length_le
theorem qoU (s:ByteArray):∀ (l:List Bd) (k:Nat),k≤l.length→(∀ (j:Nat) (b:Bd),j<k→l[j]?=some b→ltS b.name s=true)→(∀ b,l[k]?=some b→ltS b.name s=false)→posB l s=k
 | [],k,h,_,_=>by simp at h;subst h;rfl
 | a::l,0,_,_,h2=>by
   have:=h2 a (by simp)
   simp [posB,List.takeWhile_cons,this]
 | a::l,k+1,h,h1,h2=>by
   have h0:=h1 0 a (by omega) (by simp)
   have ih:=qoU s l k (by simpa using h) (fun j b hj hs=>h1 (j+1) b (by omega) (by simpa using hs)) (fun b hs=>h2 b (by simpa using hs))
   simp only [posB] at ih ⊢
   rw [List.takeWhile_cons,if_pos h0,List.length_cons,ih]
theorem RisB.lt (h:RisB l){i:Nat}{a b:Bd}(hij:i<j)(ha:l[i]?=some a)(hb:l[j]?=some b):ltS a.name b.name=true:=by
 obtain ⟨h1,rfl⟩:=List.getElem?_eq_some_iff.1 ha
 obtain ⟨h2,rfl⟩:=List.getElem?_eq_some_iff.1 hb
 exact List.pairwise_iff_getElem.1 h i j h1 h2 hij
theorem qiy (s:ByteArray):∀ (l:List Bd),(∀ (j:Nat) (b:Bd),j<posB l s→l[j]?=some b→ltS b.name s=true)∧∀ b,l[posB l s]?=some b→ltS b.name s=false
 | []=>⟨fun j b h=>by simp [posB] at h,fun b h=>by simp at h⟩
 | a::l=>by
   have ih:=qiy s l
   by_cases h:ltS a.name s=true
   ·have e:posB (a::l) s=posB l s+1:=by simp [posB,List.takeWhile_cons,h]
    rw [e]
    refine ⟨fun j b hj hb=>?_,fun b hb=>ih.2 b (by simpa using hb)⟩
    cases j with
    | zero=>simp only [List.getElem?_cons_zero,Option.some.injEq] at hb;subst hb;exact h
    | succ j=>exact ih.1 j b (by omega) (by simpa using hb)
   ·have e:posB (a::l) s=0:=by simp [posB,List.takeWhile_cons,h]
    rw [e]
    refine ⟨fun j b hj=>absurd hj zO,fun b hb=>?_⟩
    simp only [List.getElem?_cons_zero,Option.some.injEq] at hb;subst hb;simpa using h
theorem qmQ (h:RisB l)(s:ByteArray):hasB l s=(match l[posB l s]? with|some b=>decide (b.name=s)|none=>false):=by
 obtain ⟨hp,hq⟩:=qiy s l
 rw [Bool.eq_iff_iff]
 constructor
 ·intro ha
  simp only [hasB,List.any_eq_true,decide_eq_true_eq] at ha
  obtain ⟨b,hb,rfl⟩:=ha
  obtain ⟨j,hj⟩:=List.getElem?_of_mem hb
  have hjl:=(List.getElem?_eq_some_iff.1 hj).1
  have e:j=posB l b.name:=by
   rcases Nat.lt_trichotomy j (posB l b.name) with h1|h1|h1
   ·have:=hp j b h1 hj;rw [qhC] at this;cases this
   ·exact h1
   ·obtain ⟨x,hx⟩:=qM (l:=l) (k:=posB l b.name) (by omega)
    have h2:=h.lt h1 hx hj
    rw [hq x hx] at h2;cases h2
  rw [← e,hj];simp
 ·intro ha
  split at ha
  ·rename_i b hb
   simp only [decide_eq_true_eq] at ha
   simp only [hasB,List.any_eq_true,decide_eq_true_eq]
   exact ⟨b,List.mem_of_getElem? hb,ha⟩
  ·cases ha
def bsI (p:Nat→Bool)(n:Nat):Nat→Nat×Nat
 | 0=>(0,n)
 | k+1=>let q:=bsI p n k;if p ((q.1+q.2) / 2) then ((q.1+q.2) / 2+1,q.2) else (q.1,(q.1+q.2) / 2)
def bdP (l:List Bd)(s:ByteArray)(i:Nat):Bool:=match l[i]? with
 | some b=>ltS b.name s
 | none=>false
theorem qqp (b:Bd)(s:ByteArray):PF 236 [.agg (lift false (bdD b)),sv s] (iv (cmpS b.name s)):=by
 refine qI Tryz.func236 E Tryz.ntmps236 zL fun c hL hQ hDD=>(qd (qb (qt E E zD (q6 2 E E E) E (zX E (zK (qd ?_))))));refine qb (zA E (qe E qa5 E) (zA E (qi E qar E E E E E) (zX E (qH (avs:=[_,_]) true E E E zD qei E E (qew _ _) E E (zX E (zK (qn (zI hL (qg E qh) ?_ ?_))))))))
 ·rfl
 exact ⟨rfl,rfl⟩
theorem qso {i:Nat}(h:i+j≤9223372036854775807):IntKind.i64.wrap (IntKind.u64.wrap ((i:Int)+(j:Int)) / 2 ^ min (1:Int).toNat IntKind.u64.bits)=(((i+j) / 2:Nat):Int):=by
 have e1:IntKind.u64.wrap ((i:Int)+(j:Int))=((i+j:Nat):Int):=by
  simp only [IntKind.wrap,IntKind.signed,IntKind.bits]
  show (if (false&&_)=true then _ else _)=_
  rw [if_neg (by simp)]
  show ((i:Int)+(j:Int)) % 18446744073709551616=_
  push_cast
  omega
 rw [e1,show ((2:Int) ^ min (1:Int).toNat IntKind.u64.bits)=2 from rfl]
 rw [qmi (by omega)]
 omega
theorem find_bs (l:List Bd)(s:ByteArray)(hr:RisB l)(hl:l.length≤1000000):AC Tryz.prog 235 [.dat false 5 (bdDs l),sv s,.fn 236 []] [] (fun r O=>r=.tup [iv (posB l s),bv (hasB l s)]∧O=[]):=by
 have hlen:=qaR l
 have hmono:∀ (a b:Nat),a<b→bdP l s b=true→bdP l s a=true:=fun a b hab hb=>by
  unfold bdP at hb ⊢
  cases hx:l[b]? with
  | none=>rw [hx] at hb;cases hb
  | some y=>
    rw [hx] at hb
    obtain ⟨x,hxa⟩:=qM (l:=l) (k:=a) (by have:=(List.getElem?_eq_some_iff.1 hx).1;omega)
    rw [hxa]
    exact qnW (hr.lt hab hxa hx) hb
 refine qI Tryz.func235 E Tryz.ntmps235 zL fun c hL hQ hDD=>(qd (qb (zX E (zX E (zK (qd ?_))))));refine qb (zX E (zA E (qu E qA E) ?_))
 refine zX E (zK (qd (qb (zX E (zX E (zX E ?_))))));refine zK (qd (qv ?_))
 refine qac (l.length) (fun k=>(bsI (bdP l s) l.length k).1≤(bsI (bdP l s) l.length k).2∧(bsI (bdP l s) l.length k).2≤l.length∧(bsI (bdP l s) l.length k).2-(bsI (bdP l s) l.length k).1+k≤l.length∧(∀ j,j<(bsI (bdP l s) l.length k).1→bdP l s j=true)∧(∀ j,(bsI (bdP l s) l.length k).2≤j→bdP l s j=false)) (fun k=>⟨[(0,.dat false 5 (bdDs l)),(1,sv s),(2,.fn 236 []),(8,iv (bdDs l).length),(9,iv ((bsI (bdP l s) l.length k).1:Int)),(10,iv ((bsI (bdP l s) l.length k).2:Int))],[]⟩) (⟨by simp [bsI],by simp [bsI],by simp [bsI],fun j hj=>absurd hj (by simp [bsI]),fun j hj=>by simp only [bsI] at hj;simp [bdP,List.getElem?_eq_none hj]⟩) ?_ (fun k hk hp=>?_)
 ·exact qC (zC E (zC E (zC E (zC E (SubT.cons (qaw E (by rfl)) (SubT.cons (qaw E (by simp [bsI,qaR])) SubT.nil)))))) SubO.nil rfl rfl (noL' (noL hL) _)
 obtain ⟨hp1,hp2,hp3,hp4,hp5⟩:=hp
 generalize hI:(bsI (bdP l s) l.length k).1=I at*
 generalize hJ:(bsI (bdP l s) l.length k).2=J at*
 refine qd (qd (qb (zX E (zX E (zA E (qj E E E E) (zK ?_))))));refine qo E (fun c0=>?_) (fun c0=>?_)
 ·simp only[↓cqA,cqB]at c0
  obtain ⟨u,hu⟩:=qM (l:=l) (k:=(I+J) / 2) (by omega)
  refine qr (qa (qv (qd (qb (zX E (zX E (zA E (qO E E E zO) ?_)))))));refine zA E (qec E qns ul_uint E) (zA E (qmt E E E zD) (zA E (qec E us_uint qfR E) (zX E (zK (qd (qb ?_))))))
  rw [qso (by omega)]
  refine zX E (zX E (zX E (zA E (qp E qA E E zO (qbj hu)) (zA E (qD E qa1 E E) (zX E (qH (avs:=[_,_]) true E E E zD qhY E E (qqp u s) E E (zA E (qj E E E E) (zK (qo E (fun c1=>?_) (fun c1=>?_))))))))))
  ·simp only[↓cqA,cqB]at c1
   have hpm1:bdP l s ((I+J) / 2)=true:=by simp only [bdP,hu];exact (qqu _ _).1 c1
   have hs1:bsI (bdP l s) l.length (k+1)=((I+J) / 2+1,J):=by simp only [bsI,hI,hJ,hpm1,if_true]
   refine qb (zX E (zA E (qO E E E zO) (zX E (qc (qR (qa ?_))))));refine ⟨?_,?_,?_⟩
   ·omega
   ·have hs:bsI (bdP l s) l.length (k+1)=if bdP l s ((I+J) / 2) then ((I+J) / 2+1,J) else (I,(I+J) / 2):=by simp only [bsI,hI,hJ]
    have hpm:bdP l s ((I+J) / 2)=ltS u.name s:=by simp [bdP,hu]
    rw [hs,hpm]
    by_cases hc:ltS u.name s=true
    ·rw [if_pos hc]
     refine ⟨by simp only;omega,by simp only;omega,by simp only;omega,fun j hj=>?_,fun j hj=>hp5 j hj⟩
     rcases Nat.lt_or_ge j ((I+J) / 2) with h1|h1
     ·exact hmono j _ h1 (hpm.trans hc)
     ·rw [show j=(I+J) / 2 by simp only at hj;omega,hpm];exact hc
    ·rw [if_neg hc]
     refine ⟨by simp only;omega,by simp only;omega,by simp only;omega,hp4,fun j hj=>?_⟩
     cases h1:bdP l s j with
     | false=>rfl
     | true=>
       exfalso
       rcases Nat.eq_or_lt_of_le hj with h2|h2
       ·simp only at h2;rw [← h2,hpm] at h1;exact hc h1
       ·have:=hmono _ j h2 h1
        rw [hpm] at this;exact hc this
   exact qC (zC E (zC E (zC E (zC E (SubT.cons (qaw E (by simp [hs1])) (SubT.cons (qaw rfl (by simp [hs1])) SubT.nil)))))) SubO.nil rfl rfl (noL' (noL hL) _)
  simp only[↓cqA,cqB]at c1
  have hpm1:bdP l s ((I+J) / 2)=false:=by
   simp only [bdP,hu]
   cases h:ltS u.name s with
   | false=>rfl
   | true=>have:=(qqu _ _).2 h;omega
  have hs1:bsI (bdP l s) l.length (k+1)=(I,(I+J) / 2):=by simp only [bsI,hI,hJ,hpm1];rfl
  refine qb (zX E (zX E (qc (qR (qa ?_)))));refine ⟨?_,?_,?_⟩
  ·omega
  ·have hs:bsI (bdP l s) l.length (k+1)=if bdP l s ((I+J) / 2) then ((I+J) / 2+1,J) else (I,(I+J) / 2):=by simp only [bsI,hI,hJ]
   have hpm:bdP l s ((I+J) / 2)=ltS u.name s:=by simp [bdP,hu]
   rw [hs,hpm]
   by_cases hc:ltS u.name s=true
   ·rw [if_pos hc]
    refine ⟨by simp only;omega,by simp only;omega,by simp only;omega,fun j hj=>?_,fun j hj=>hp5 j hj⟩
    rcases Nat.lt_or_ge j ((I+J) / 2) with h1|h1
    ·exact hmono j _ h1 (hpm.trans hc)
    ·rw [show j=(I+J) / 2 by simp only at hj;omega,hpm];exact hc
   ·rw [if_neg hc]
    refine ⟨by simp only;omega,by simp only;omega,by simp only;omega,hp4,fun j hj=>?_⟩
    cases h1:bdP l s j with
    | false=>rfl
    | true=>
      exfalso
      rcases Nat.eq_or_lt_of_le hj with h2|h2
      ·simp only at h2;rw [← h2,hpm] at h1;exact hc h1
      ·have:=hmono _ j h2 h1
       rw [hpm] at this;exact hc this
  exact qC (zC E (zC E (zC E (zC E (SubT.cons (qaw E (by simp [hs1])) (SubT.cons (qaw rfl (by simp [hs1])) SubT.nil)))))) SubO.nil rfl rfl (noL' (noL hL) _)
 simp only[↓cqA,cqB]at c0
 refine qV (qq (qq (qad ?_)));refine qa (qd (qb (zX E (zX E (zX E (zA E (qj E E E E) (zX E ?_)))))));refine qE 39 E (fun g39=>?_) (fun g39=>?_)
 ·simp only[↓cqA,cqB]at g39
  obtain ⟨v,hv⟩:=qM (l:=l) (k:=I) (by omega)
  refine zZ E (ql (.inl E) E) (zZ E (ql (.inl E) E) (zZ E (ql (.inl E) E) (zZ E (qp E qA E E zO (qbj hv)) (zZ E (qD E qa1 E E) ?_))))
  refine zZ E (ql (.inl E) E) (zZ E (qai (avs:=[_,_]) true E qhY E E (qqp v s) (fun _=>rfl) E) (zZ E (qj E E E E) (zA E (qk E E E) (zX E (zX E (zK ?_))))));refine qn (zI hL (qg E (qg E qh)) ?_ ?_)
  ·rfl
  refine ⟨?_,rfl⟩
  have hIJ:I=J:=by omega
  have e1:posB l s=I:=qoU s l I (by omega) (fun j b hj hb=>by have:=hp4 j hj;simpa [bdP,hb] using this) (fun b hb=>by have:=hp5 I (by omega);simpa [bdP,hb] using this)
  have e2:=qmQ hr s
  rw [e1] at e2 ⊢
  rw [e2]
  try rw [hv]
  try rw [List.getElem?_eq_none (by omega)]
  first|rfl|(simp only [Value.bool.injEq,resV];congr;rw [Bool.eq_iff_iff];simp [qgf])
 simp only[↓cqA,cqB]at g39
 refine zY E (zY E (zY E (zY E (zY E (zY E (zY E (zY E (zA E (qk E E E) (zX E (zX E (zK (qn (zI hL (qg E (qg E qh)) ?_ ?_)))))))))))))
 ·rfl
 refine ⟨?_,rfl⟩
 have hIJ:I=J:=by omega
 have e1:posB l s=I:=qoU s l I (by omega) (fun j b hj hb=>by have:=hp4 j hj;simpa [bdP,hb] using this) (fun b hb=>by have:=hp5 I (by omega);simpa [bdP,hb] using this)
 have e2:=qmQ hr s
 rw [e1] at e2 ⊢
 rw [e2]
 try rw [hv]
 try rw [List.getElem?_eq_none (by omega)]
 first|rfl|(simp only [Value.bool.injEq,resV];congr;rw [Bool.eq_iff_iff];simp [qgf])
theorem qfx {l:List α}{junk:List (Option α)}{d:α}(h:l[j]?=some d):(l.map some++junk)[j]?=some (some d):=by
 rw [List.getElem?_append_left (by simpa using (List.getElem?_eq_some_iff.1 h).1),List.getElem?_map,h];rfl
theorem qhx (l m:List α){r:List α}(h:m.length≤r.length):qau (l++r) l.length m=l++m++r.drop m.length:=by
 simp only [qau]
 rw [List.take_append_of_le_length (Nat.le_refl _),List.take_length,List.drop_append,List.drop_eq_nil_of_le (by omega),List.nil_append]
 congr 2;omega
theorem qjP (f:Bool)(d:List D)(hd:d.length=5):
  ACt Tryz.prog 290 [.imm (.slice none 0 0),iv 0,.row 59] [(59,.rowd 143 5 f [d])] (fun r O=>r=.row 200∧O=[(200,.rowd 143 5 f [d]),(59,.rowd 143 5 f [d])]):=by
 have hone:[d].length=1:=rfl
 refine qi5 Tryz.func290 E Tryz.ntmps290 zL fun c hL hDD=>(qd (qb (zX E (zK (qd (qb ?_))))));refine zX E (zX E (zA E (qpJ E qA E E zO) (zK (qd (qb (zX E (zA E (qbf E qA E E) ?_)))))))
 refine zX E (zK (qd (qd (qb (zX E (zA E (qj E E E E) ?_))))));refine zK (qo E (fun c0=>?_) (fun c0=>?_))
 ·simp only[↓cqA,cqB]at c0
  exfalso;simp at c0
 simp only[↓cqA,cqB]at c0
 refine qr (qa (qd (qb (zX E (zA E (qcB E qA E) ?_)))))
 refine zX E (zK (qd (qd (qb (zX E (zX E ?_))))));refine zA E (qj E E E E) (zK (qo E (fun c1=>?_) (fun c1=>?_)))
 ·simp only[↓cqA,cqB]at c1
  refine qd ?_;refine qb ?_;refine zX E ?_;refine zX E ?_;refine qab (qam (t:=23) (l:=23) 143 5 f E E) ?_;refine qcG 200 qbr E E zD E E E (qdJ E E) E (fun x hx=>by simp at hx;rw [hx,hd]) (qqW hL rfl) rfl (by simp) rfl ?_;refine zX E ?_;refine qc ?_;refine qa ?_;refine qn ?_;refine qm ?_
  change retQ _ _ _ _ _ _ _
  refine retO (O':=[(200,_),(59,_)]) (.inl E) (qg E qh) (SubO.cons E (SubO.cons E SubO.nil)) ?_ ?_ (oneL hL E) ?_
  ·rfl
  ·rfl
  exact ⟨rfl,rfl⟩
 simp only[↓cqA,cqB]at c1
 exact absurd trivial c1
set_option maxHeartbeats 2000000 in
theorem qnd (f:Bool)(es:List (List D))(d:List D)(i cap:Nat)(hi:i≤es.length)(hcap:es.length≤cap)(hmax:cap≤maxLen)(hes:∀ x∈es,x.length=5)(hd:d.length=5)(hb:(es.length+1)*72≤140737488355328):
    ACt Tryz.prog 290 [.vw 9 0 es.length cap,iv i,.row 59] [(9,.arr 143 5 f (es.map some++List.replicate (cap-es.length) none)),(59,.rowd 143 5 f [d])]
      (fun r O=>∃ junk,(r=.vw 9 0 (es.length+1) cap∧cap=(ins es i d).length+junk.length∧O=[(9,.arr 143 5 f ((ins es i d).map some++junk)),(59,.rowd 143 5 f [d])])∨
        ∃ cap',r=.vw 200 0 (es.length+1) cap'∧cap'=(ins es i d).length+junk.length∧O=[(200,.arr 143 5 f ((ins es i d).map some++junk)),(9,.arr 143 5 f (es.map some++List.replicate (cap-es.length) none)),(59,.rowd 143 5 f [d])]):=by
  have hmx:maxLen=9223372036854775807:=rfl
  have hlen:(es.map some++List.replicate (cap-es.length) (none:Option (List D))).length=cap:=by simp;omega
  have hil:=qbw es i d hi
  have hone:[d].length=1:=rfl
  have hoff1:∀ q:Nat,i<q→(if (q:Int)=(i:Int) then 0 else 0+(i:Int).toNat*5)=i*5:=fun q h=>by rw [if_neg (by omega)];simp
  have hoff2:∀ q:Nat,i+1<q→(if (q:Int)=(i:Int)+([d].length:Int) then 0 else 0+((i:Int)+([d].length:Int)).toNat*5)=(i+1)*5:=fun q h=>by rw [if_neg (by simp;omega),Nat.zero_add];congr 1
  have hdr:∀ (j:Nat) (x:List D),(es.drop i)[j]?=some x→es[i+j]?=some x:=fun j x hx=>by rwa [List.getElem?_drop] at hx
  refine qi5 Tryz.func290 E Tryz.ntmps290 zL fun c hL hDD=>(qd (qb (zX E (zK (qd (qb ?_))))));refine zX E (zX E (zA E (qcr E qA E E zO zO zO) (zK (qd (qb (zX E (zA E (qbf E qA E E) ?_)))))))
  refine zX E (zK (qd (qd (qb (zX E (zA E (qj E E E E) ?_))))));refine zK (qo E (fun c0=>?_) (fun c0=>?_))
  · simp only[↓cqA,cqB]at c0
    exfalso;simp at c0
  simp only[↓cqA,cqB]at c0
  refine qr (qa (qd (qb (zX E (zA E (qcy E qA E) ?_)))))
  refine zX E (zK (qd (qd (qb (zX E (zX E ?_))))));refine zA E (qj E E E E) (zK (qo E (fun c1=>?_) (fun c1=>?_)))
  · simp only[↓cqA,cqB]at c1
    refine qd (qb (zX E (zX E (qdn 200 es [d] qbr E E zD E E E hlen.symm hcap (qdJ E E) (by simp) rfl (fun j x hx=>qfx hx) rfl (by simpa using hb) zD (fun hroom=>?_) (fun hgr cap' hc1 hc2=>?_)))))
    · refine zX E (zK (qn (qm ?_)))
      change retQ _ _ _ _ _ _ _
      have hie:i=es.length:=by omega
      refine retO (O':=[(9,_),(59,_)]) (.inl E) (qg E qh) (SubO.cons E (SubO.cons E SubO.nil)) ?_ ?_ (LO hL E) ?_
      · rfl
      · rfl
      simp only [List.length_singleton] at hroom
      refine ⟨List.replicate (cap-es.length-1) none,.inl ⟨rfl,by rw [hil,List.length_replicate];omega,?_⟩⟩
      congr 3
      subst hie
      have hse:=qhx (es.map some) ([d].map some) (r:=List.replicate (cap-es.length) none) (by simp;omega)
      rw [List.length_map] at hse
      rw [hse]
      simp [ins]
    refine zX E (zK (qn (qm ?_)))
    change retQ _ _ _ _ _ _ _
    have hie:i=es.length:=by omega
    refine retO (O':=[(200,_),(9,_),(59,_)]) (.inl E) (qg E qh) (SubO.cons E (SubO.cons E (SubO.cons E SubO.nil))) ?_ ?_ (fun l hl=>?_) ?_
    · rfl
    · rfl
    · have:=(hL l).1 hl
      simp only [inD,qa0] at this ⊢
      split
      · rfl
      · exact this
    simp only [List.length_singleton] at hc1
    refine ⟨List.replicate (cap'-(es++[d]).length) none,.inr ⟨cap',rfl,by rw [hil,List.length_replicate];simp;omega,?_⟩⟩
    subst hie
    simp only [ins,List.take_length,List.drop_length]
  simp only[↓cqA,cqB]at c1
  refine qr (qa (qd (qd (qb (zX E (zX E (zA E (qO E E E zO) ?_)))))));refine zX E (zA E (qlK E qA E) (zA E (qj E E E E) (zK (qo E (fun c2=>?_) (fun c2=>?_)))))
  · simp only[↓cqA,cqB]at c2
    refine qd (qb (zX E (zX E (zA E (qe6 E qA E E zO zO zO) ?_))))
    refine zX E ?_;refine zX E ?_;refine zA E (qO E E E zO) ?_;refine zX E ?_;refine zA E (qa3 E E E zO) ?_;refine qiX 200 (es.take i) qbr E E zD qfR E E E E (by simp;omega) (by simp;omega) (fun j x hx=>by
    rw [List.getElem?_take] at hx
    split at hx
    · exact qfx hx
    · cases hx) rfl (by simp;simp at c2;omega) (by simp;omega) (by decide) (fun cap' hc1 hc2=>?_)
    refine zX E (zK (qd (qb (zX E (zX E (zA E (qcr E qA E E zO zO zO) ?_))))))
    refine zX E ?_;refine qeS i [d] E E zD qA E E E (hoff1 _ (by simp at hc1;omega)) (qdJ E E) (by simp;omega) (by simp at hc1;simp;omega) ?_;refine qc ?_;refine qa ?_;refine qd ?_;refine qX 8 mixed E E E E (zU E (ql (.inl E) E) (zU E (ql (.inl E) E) (zU E (ql (.inl E) E) (zU E (qO E E E zO) (zU E (qcr E qA E E zO zO zO) (zU E (ql (.inl E) E) (zU E (ql (.inl E) E) ?_)))))))
    refine zU E (qcr E qA E E zO zO zO) ?_;refine qaq ⟨rfl,rfl,?_⟩;refine qeS (i+1) (es.drop i) E E zD qA E E E (hoff2 _ (by simp at hc1;omega)) (qpN (i:=i) E E (hoff1 _ zO) (fun j x hx=>qfx (hdr j x hx)) (by simp)) (by simp;omega) (by rw [qa9 (by simp;omega)];simp;omega) ?_;refine qc ?_;refine qa ?_;refine qd (qb (zX E (zX E (zK (qn (qm ?_))))))
    change retQ _ _ _ _ _ _ _
    refine retO (O':=[(200,_),(9,_),(59,_)]) (.inl E) (qg E qh) (SubO.cons E (SubO.cons E (SubO.cons E SubO.nil))) ?_ ?_ (fun l hl=>?_) ?_
    · rfl
    · rfl
    · have:=(hL l).1 hl
      simp only [inD,qa0] at this ⊢
      split
      · rfl
      · exact this
    have hc3:es.length+1≤cap':=by omega
    refine ⟨List.replicate (cap'-(es.length+1)) none,.inr ⟨cap',?_,by rw [hil,List.length_replicate];omega,?_⟩⟩
    · rw [show (i:Int).toNat+((es.length:Int)+([d].length:Int)-(i:Int)).toNat=es.length+1 by omega];rfl
    · have hf:=qnZ (es.map some) i cap' (some d) none (by simpa using hi) (by simpa using hc3)
      simp only [← List.map_take,← List.map_drop,List.length_map] at hf
      rw [qia,List.map_cons,List.map_nil,hf]
  simp only[↓cqA,cqB]at c2
  refine qr (qa (qd (qb (zX E (zX E (zX E (zA E (qO E E E zO) ?_)))))));refine zA E (qe6 E qA E E zO zO zO) ?_
  refine zX E (zK (qd (qd (qb (zX E (zX E ?_))))));refine zX E (zX E (zA E (qO E E E zO) ?_))
  refine zA E (qcr E qA E E zO zO zO) ?_;refine zA E (qjs Tryz.func318 (by kernel_rfl) (by kernel_rfl) (by kernel_rfl) (by kernel_rfl) E E E qA E E E E E zD (by simp;omega) (by simp)) ?_;refine zA E (qaB E E) ?_;refine qc ?_;refine qa ?_;refine qo E (fun c3=>?_) (fun c3=>?_)
  · simp only[↓cqA,cqB]at c3
    refine qd (qX 8 mixed E E E E (zU E (ql (.inl E) E) (zU E (ql (.inl E) E) (zU E (ql (.inl E) E) (zU E (qO E E E zO) (zU E (qcr E qA E E zO zO zO) (zU E (ql (.inl E) E) (zU E (ql (.inl E) E) (zU E (qcr E qA E E zO zO zO) ?_)))))))))
    refine qaq ⟨rfl,rfl,?_⟩;refine qeS (i+1) (es.drop i) E E zD qA E E E (hoff2 _ (by simp at c2;omega)) (qpN (i:=i) E E (hoff1 _ zO) (fun j x hx=>qfx (hdr j x hx)) (by simp;omega)) (by simp;omega) (by simp at c2;simp;omega) ?_;refine qc ?_;refine qa ?_;refine qd ?_;refine qb ?_;refine zX E ?_;refine zX E ?_
    refine zA E (qcr E qA E E zO zO zO) ?_;refine zX E ?_;refine qeS i [d] E E zD qA E E E (hoff1 _ (by simp at c2;omega)) (qdJ E E) (by simp;omega) (by rw [qa9 (by simp;omega)];simp;omega) ?_;refine qc ?_;refine qa ?_;refine qd ?_;refine qb (zX E (zX E (zK (qn (qm ?_)))))
    change retQ _ _ _ _ _ _ _
    refine retO (O':=[(9,_),(59,_)]) (.inl E) (qg E qh) (SubO.cons E (SubO.cons E SubO.nil)) ?_ ?_ (LO hL E) ?_
    · rfl
    · rfl
    have hc3:es.length+1≤cap:=by omega
    refine ⟨(List.replicate (cap-es.length) none).drop 1,.inl ⟨?_,by rw [hil];simp;omega,?_⟩⟩
    · rw [show ((es.length:Int)+([d].length:Int)).toNat=es.length+1 by omega];rfl
    · have hf:=ql3 (es.map some) (List.replicate (cap-es.length) none) i (some d) (by simp;omega) (by simp;omega)
      simp only [← List.map_drop] at hf
      rw [qia,List.map_cons,List.map_nil,hf]
  simp only[↓cqA,cqB]at c3
  exfalso;simp at c3
def qfQ:Tm:=⟨0,⟨#[]⟩,0,[]⟩
def qe9 (l:List Bd)(s:ByteArray):Tm:=(qeX l s).getD qfQ
theorem zero_le (f:Bool):Le (.agg [iv 0,sv ⟨#[]⟩,iv 0,.imm (.slice none 0 0)]) (.agg (lift f (tmD qfQ))):=.agg (.cons .refl (.cons .refl (.cons .refl (.cons .nil .nil))))
theorem qpb (l:List Bd)(s:ByteArray)(hr:RisB l)(hl:l.length≤1000000):PF 174 [.dat false 5 (bdDs l),sv s] (.tup [iv (posB l s),bv (hasB l s)]):=by
 refine qI Tryz.func174 E Tryz.ntmps174 zL fun c hL hQ hDD=>(qd (qb (zX E (zX E (zK (qd ?_))))));refine qb (zX E (zX E (qH (avs:=[_,_,_]) false E E E zD qcD E E (find_bs l s hr hl) E E (zA E (qS E E E) (zA E (qS E E E) (zX E (zX E (zK (qn (zI hL (qg E (qg E qh)) ?_ ?_))))))))))
 ·rfl
 exact ⟨rfl,rfl⟩
theorem qf5 (l:List Bd)(s:ByteArray)(hr:RisB l):hasB l s=(qeX l s).isSome∧(hasB l s=true→∃ b,l[posB l s]?=some b∧b.name=s∧qeX l s=some b.t):=by
 have key:∀ l:List Bd,hasB l s=(qeX l s).isSome:=fun l=>by
  induction l with
  | nil=>rfl
  | cons a l ih=>
    by_cases h:a.name=s
    ·simp [hasB,qeX,List.find?_cons,h]
    ·simp only [hasB,qeX,List.any_cons,List.find?_cons,h,decide_false,Bool.false_or]
     exact ih
 refine ⟨key l,fun h=>?_⟩
 have h2:=qmQ hr s
 rw [h] at h2
 cases hb:l[posB l s]? with
 | none=>rw [hb] at h2;cases h2
 | some b=>
   rw [hb] at h2
   have hn:b.name=s:=of_decide_eq_true h2.symm
   refine ⟨b,rfl,hn,?_⟩
   have huniq:∀ x∈l,x.name=s→x=b:=fun x hx hxs=>by
    obtain ⟨j,hj⟩:=List.getElem?_of_mem hx
    rcases Nat.lt_trichotomy j (posB l s) with h1|h1|h1
    ·have:=hr.lt h1 hj hb;rw [hxs,hn,qhC] at this;cases this
    ·rw [h1,hb] at hj;cases hj;rfl
    ·have:=hr.lt h1 hb hj;rw [hxs,hn,qhC] at this;cases this
   cases hf:l.find? (fun b=>decide (b.name=s)) with
   | none=>
     have:=List.find?_eq_none.1 hf b (List.mem_of_getElem? hb)
     simp [hn] at this
   | some x=>
     have h3:=List.find?_some hf
     have h4:=List.mem_of_find?_eq_some hf
     simp only [decide_eq_true_eq] at h3
     rw [huniq x h4 h3] at hf
     simp [qeX,hf]
theorem qjh (hr:RisB l)(h:hasB l s=false):qeX l s=none:=by
 have h2:=(qf5 l s hr).1
 rw [h] at h2
 cases h3:qeX l s with
 | none=>rfl
 | some t=>rw [h3] at h2;cases h2
theorem Look_raw (l:List Bd)(s:ByteArray)(hr:RisB l)(hl:l.length≤1000000):AC Tryz.prog 189 [.dat false 5 (bdDs l),sv s] [] (fun r O=>(hasB l s=true∧r=.tup [tmA false (qe9 l s),bv true]∨hasB l s=false∧r=.tup [.agg [iv 0,sv ⟨#[]⟩,iv 0,.imm (.slice none 0 0)],bv false])∧O=[]):=by
 have hlen:=qaR l
 have hpl:=qgv l s
 refine qI Tryz.func189 E Tryz.ntmps189 zL fun c hL hQ hDD=>(qd (qb (qt E E zD (qat 4 E qaJ E) E (zX E (zK (qd ?_))))));refine qb (zX E (zX E (qH (avs:=[_,_]) false E E E zD qhf E E (qpb l s hr hl) E E (zX E (zA E (qS E E E) ?_)))))
 refine zA E (qS E E E) (zX E (zX E (zK (qd (qd (qb ?_))))));refine zX E (zA E (qaB E E) (zK (qo E (fun c0=>?_) (fun c0=>?_))))
 ·simp only[↓cqA,cqB]at c0
  refine qd (qb (zA E (qaF E qaJ E qd4 E E) (qT E E E qz E E E E E E E E E (zX E (zK (qn ?_))))));refine qm (zI hL (qaS qz E E E (qg E qh)) ?_ ?_)
  ·rfl
  exact ⟨.inr ⟨c0,rfl⟩,rfl⟩
 simp only[↓cqA,cqB]at c0
 obtain ⟨b,hb,hn,hlk⟩:=(qf5 l s hr).2 c0
 have hlt:=(List.getElem?_eq_some_iff.1 hb).1
 refine qr (qa (qd (qb (zX E (zX E (zA E (qp E qA E E zO (qbj hb)) (zA E (qJ E qbc E) ?_)))))));refine zA E (qD E qz E E) (qT E E E qz E E E E E E E E E (zX E (zK (qn (zI hL (qaS qz E E E (qg E qh)) ?_ ?_)))))
 ·rfl
 refine ⟨.inl ⟨c0,?_⟩,rfl⟩
 rw [qe9,hlk];rfl
theorem qsR (l:List Bd)(s:ByteArray)(hr:RisB l)(hl:l.length≤1000000):PF 189 [.dat false 5 (bdDs l),sv s] (.tup [tmA false (qe9 l s),bv (hasB l s)]):=
 qh2 (Look_raw l s hr hl) (fun r O' h=>by
  obtain ⟨h|h,rfl⟩:=h
  ·obtain ⟨h1,rfl⟩:=h;exact ⟨_,.refl,by rw [h1],rfl⟩
  ·obtain ⟨h1,rfl⟩:=h
   refine ⟨_,.tup (.cons (zero_le false) (.cons .refl .nil)),?_,rfl⟩
   rw [h1,qe9,qjh hr h1];rfl)
structure BOk (l:List Bd):Prop where
 ris:RisB l
 len:l.length≤1000
 el:∀ b∈l,b.wf∧mayT b.t=true
def gB (l:List Bd)(s:ByteArray):Tm:=(qeX l s).getD ⟨1,s,0,[]⟩
theorem qse (h:qeX l s=some t):∃ b∈l,b.name=s∧b.t=t:=by
 simp only [qeX,Option.map_eq_some_iff] at h
 obtain ⟨b,h1,h2⟩:=h
 have h3:=List.find?_some h1
 simp only [decide_eq_true_eq] at h3
 exact ⟨b,List.mem_of_find?_eq_some h1,h3,h2⟩
theorem BOk.look (h:BOk l)(ht:qeX l s=some t):t.wf∧mayT t=true:=by
 obtain ⟨b,h1,_,rfl⟩:=qse ht
 exact ⟨(h.el b h1).1.2,(h.el b h1).2⟩
theorem Put1_ok (l:List Bd)(hl:BOk l)(s:ByteArray):AC Tryz.prog 188 [sv s,.ptr 99 0] [(99,.box [.dat false 5 (bdDs l)])] (fun r O=>r=.agg (lift true (tmD (gB l s)))∧O=[(99,.box [.dat false 5 (bdDs l)])]):=by
 have hln:=hl.len
 have hls:=(qf5 l s hl.ris).1
 refine qh2 (Post:=fun r O=>(r=.agg (lift true (tmD (gB l s)))∨hasB l s=false∧r=.agg [iv 1,sv s,iv 0,.imm (.slice none 0 0)])∧O=[(99,.box [.dat false 5 (bdDs l)])]) ?_ (fun r O' h=>by
  obtain ⟨rfl|⟨h1,rfl⟩,rfl⟩:=h
  ·exact ⟨_,.refl,rfl,rfl⟩
  ·refine ⟨.agg (lift true (tmD ⟨1,s,0,[]⟩)),.agg (.cons .refl (.cons .refl (.cons .refl (.cons .nil .nil)))),?_,rfl⟩
   rw [gB,qjh hl.ris h1];rfl)
 refine qI Tryz.func188 E Tryz.ntmps188 zL fun c hL hQ hDD=>(qd (qb (qt E E zD (qat 3 E qaJ E) E (zK (qd (qd ?_))))));refine qb (zA E (qi E qaK E E E E E) (zX E (qH (avs:=[_,_]) false E E E zD qjC E E (qsR l s hl.ris zO) E E (zX E (zA E (qS E E E) (zA E (qS E E E) ?_))))))
 refine qt E E zD (qat 4 E qaJ E) E (qT E E E qz E E E E E E E E E (zX E (zK (qd (qb (zX E ?_))))));refine zK (qo E (fun c0=>?_) (fun c0=>?_))
 ·obtain ⟨t,ht⟩:∃ t,qeX l s=some t:=by
   cases h:qeX l s with
   | none=>rw [h,c0] at hls;cases hls
   | some t=>exact ⟨t,rfl⟩
  obtain ⟨hw,hm⟩:=hl.look ht
  have hlt:qe9 l s=t:=by rw [qe9,ht];rfl
  rw [hlt]
  have key:=qsO 5 t (qgy hm).1 hw
  rw [qmE 5 t 24 hm] at key
  refine qd (qb (zA E (qF E qz E E E E) (qH (avs:=[_]) true E E E zD qib E E (key) E E (qT E E E qz E E E E E E E E E (zK (qn ?_))))));refine qm ?_
  change retQ _ _ _ _ _ _ _
  refine retO (O':=[(99,_)]) (.inl E) (qaS qz E E E qh) (SubO.cons E SubO.nil) ?_ ?_ (LO hL E) ?_
  ·rfl
  ·rfl
  refine ⟨.inl ?_,rfl⟩
  rw [gB,ht];rfl
 refine qr (qa (qd (qb (zX E (zA E (qaF E qaJ E qd4 E E) (qT E E E qz E E E E E E E E E (qc ?_)))))));refine qa (qn ?_)
 change retQ _ _ _ _ _ _ _
 refine retO (O':=[(99,_)]) (.inl E) (qaS qz E E E qh) (SubO.cons E SubO.nil) ?_ ?_ (LO hL E) ?_
 ·rfl
 ·rfl
 exact ⟨.inr ⟨c0,rfl⟩,rfl⟩
end Go.Proofs.YtpgceiijoedppaaGreat