/- Part 28 of the proof: Ja, Kd, Ma, Ib, Ic, Ih, If. -/
import Derived.Test.YtpgceiijoedppaaGreatC27
set_option linter.unusedVariables false
set_option linter.unusedSimpArgs false
namespace Go.Proofs.YtpgceiijoedppaaGreat
open Go
structure TP {α:Type}(f:α→α→Int):Prop where
 anti:∀ a b,f b a=- f a b
 tr:∀ a b c,f a b≤0→f b c≤0→f a c≤0
section
variable {α:Type}{f g:α→α→Int}
theorem TP.self (h:TP f)(a:α):f a a=0:=by have:=h.anti a a;omega
theorem TP.lt1 (h:TP f){a b c:α}(h1:f a b<0)(h2:f b c≤0):f a c<0:=by
 have h3:=h.tr a b c (by omega) h2
 by_cases e:f a c=0
 ·have h4:f c a≤0:=by rw [h.anti a c];omega
  have h5:=h.tr b c a h2 h4
  have:=h.anti a b;omega
 ·omega
theorem TP.lt2 (h:TP f){a b c:α}(h1:f a b≤0)(h2:f b c<0):f a c<0:=by
 have h3:=h.tr a b c h1 (by omega)
 by_cases e:f a c=0
 ·have h4:f c a≤0:=by rw [h.anti a c];omega
  have h5:=h.tr c a b h4 h1
  have:=h.anti b c;omega
 ·omega
theorem TP.eq (h:TP f){a b c:α}(h1:f a b=0)(h2:f b c=0):f a c=0:=by
 have h3:=h.tr a b c (by omega) (by omega)
 have h4:=h.tr c b a (by rw [h.anti b c];omega) (by rw [h.anti a b];omega)
 have:=h.anti a c;omega
theorem TP.lex (hf:TP f)(hg:TP g):TP (fun a b=>if f a b=0 then g a b else f a b):=by
 refine ⟨fun a b=>?_,fun a b c h1 h2=>?_⟩
 ·have ha:=hf.anti a b
  show (if f b a=0 then g b a else f b a)=- (if f a b=0 then g a b else f a b)
  by_cases e:f a b=0
  ·rw [if_pos e,if_pos (by omega)];exact hg.anti a b
  ·rw [if_neg e,if_neg (by omega)];exact ha
 ·replace h1:(if f a b=0 then g a b else f a b)≤0:=h1
  replace h2:(if f b c=0 then g b c else f b c)≤0:=h2
  show (if f a c=0 then g a c else f a c)≤0
  by_cases e1:f a b=0
  ·rw [if_pos e1] at h1
   by_cases e2:f b c=0
   ·rw [if_pos e2] at h2
    rw [if_pos (hf.eq e1 e2)]
    exact hg.tr a b c h1 h2
   ·rw [if_neg e2] at h2
    have:=hf.lt2 (a:=a) (b:=b) (c:=c) (by omega) (by omega)
    rw [if_neg (by omega)];omega
  ·rw [if_neg e1] at h1
   have h2':f b c≤0:=by
    by_cases e2:f b c=0
    ·omega
    ·rw [if_neg e2] at h2;exact h2
   have:=hf.lt1 (a:=a) (b:=b) (c:=c) (by omega) h2'
   rw [if_neg (by omega)];omega
theorem TP.zero:TP (fun _ _:α=>0):=⟨fun _ _=>rfl,fun _ _ _ _ _=>Int.le_refl _⟩
theorem TP.map {β:Type}(h:TP f)(m:β→α):TP (fun a b=>f (m a) (m b)):=⟨fun _ _=>h.anti _ _,fun _ _ _ h1 h2=>h.tr _ _ _ h1 h2⟩
end
theorem TP.int:TP cmpI:=by
 refine ⟨fun a b=>?_,fun a b c h1 h2=>?_⟩
 ·simp only [cmpI];split<;>(try split)<;>(try split)<;>omega
 ·simp only [cmpI] at h1 h2 ⊢
  split at h1<;>split at h2<;>(try split at h1)<;>(try split at h2)<;>(try split)<;>(try split)<;>omega
theorem qsA:∀ a b:List UInt8,Lib.compareBytes b a=- Lib.compareBytes a b
 | [],[]=>rfl
 | [],_::_=>rfl
 | _::_,[]=>rfl
 | x::a,y::b=>by
   have ih:=qsA a b
   simp only [Lib.compareBytes,UInt8.lt_iff_toNat_lt]
   by_cases h1:x.toNat<y.toNat
   ·rw [if_neg (show ¬ y.toNat<x.toNat by omega),if_pos h1,if_pos h1];rfl
   ·by_cases h2:y.toNat<x.toNat
    ·rw [if_pos h2,if_neg h1,if_pos h2]
    ·rw [if_neg h2,if_neg h1,if_neg h1,if_neg h2];exact ih
theorem cb_tr:∀ a b c:List UInt8,Lib.compareBytes a b≤0→Lib.compareBytes b c≤0→Lib.compareBytes a c≤0
 | [],[],[],_,_=>by simp [Lib.compareBytes]
 | [],_,_::_,_,_=>by simp [Lib.compareBytes]
 | [],_::_,[],_,h=>by simp [Lib.compareBytes]
 | _::_,[],_,h,_=>by simp [Lib.compareBytes] at h
 | _::_,_::_,[],_,h=>by simp [Lib.compareBytes] at h
 | x::a,y::b,z::c,h1,h2=>by
   have ih:=cb_tr a b c
   simp only [Lib.compareBytes,UInt8.lt_iff_toNat_lt] at h1 h2 ⊢
   by_cases h3:x.toNat<z.toNat
   ·rw [if_pos h3];decide
   ·rw [if_neg h3]
    have e1:¬ y.toNat<x.toNat:=fun h=>by
     rw [if_neg (by omega),if_pos h] at h1;exact absurd h1 zD
    have e2:¬ z.toNat<y.toNat:=fun h=>by
     rw [if_neg (by omega),if_pos h] at h2;exact absurd h2 zD
    rw [if_neg (by omega)]
    rw [if_neg (by omega),if_neg e1] at h1
    rw [if_neg (by omega),if_neg e2] at h2
    exact ih h1 h2
theorem TP.str:TP cmpS:=⟨fun a b=>qsA _ _,fun a b c h1 h2=>cb_tr _ _ _ h1 h2⟩
theorem qoj {f:Tm→Tm→Int}(h:TP f):∀ l m:List Tm,cmpL f m l=- cmpL f l m
 | [],[]=>rfl
 | [],_::_=>rfl
 | _::_,[]=>rfl
 | a::l,b::m=>by
   have ih:=qoj h l m
   have:=h.anti a b
   simp only [cmpL]
   by_cases e:f a b=0
   ·rw [if_pos e,if_pos (by omega)];exact ih
   ·rw [if_neg e,if_neg (by omega)];exact this
theorem qsy {f:Tm→Tm→Int}(h:TP f):∀ l m n:List Tm,cmpL f l m≤0→cmpL f m n≤0→cmpL f l n≤0
 | [],[],[],_,_=>by simp [cmpL]
 | [],_,_::_,_,_=>by simp [cmpL]
 | [],_::_,[],_,h=>by simp [cmpL]
 | _::_,[],_,h,_=>by simp [cmpL] at h
 | _::_,_::_,[],_,h=>by simp [cmpL] at h
 | a::l,b::m,c::n,h1,h2=>by
   have ih:=qsy h l m n
   simp only [cmpL] at h1 h2 ⊢
   by_cases e1:f a b=0
   ·rw [if_pos e1] at h1
    by_cases e2:f b c=0
    ·rw [if_pos e2] at h2
     rw [if_pos (h.eq e1 e2)]
     exact ih h1 h2
    ·rw [if_neg e2] at h2
     have:=h.lt2 (a:=a) (b:=b) (c:=c) (by omega) (by omega)
     rw [if_neg (by omega)];omega
   ·rw [if_neg e1] at h1
    have h2':f b c≤0:=by
     by_cases e2:f b c=0
     ·omega
     ·rw [if_neg e2] at h2;exact h2
    have:=h.lt1 (a:=a) (b:=b) (c:=c) (by omega) h2'
    rw [if_neg (by omega)];omega
theorem TP.list {f:Tm→Tm→Int}(h:TP f):TP (cmpL f):=⟨qoj h,qsy h⟩
theorem TP.tm:∀ d:Nat,TP (cmpT d)
 | 0=>by
   have:cmpT 0=fun _ _=>0:=by funext a b;rfl
   rw [this];exact TP.zero
 | d+1=>by
   have h1:TP (fun a b:Tm=>orL [cmpI a.kind b.kind,cmpI a.n b.n,cmpI a.args.length b.args.length,cmpS a.name b.name]):=
    (TP.int.map Tm.kind).lex ((TP.int.map Tm.n).lex ((TP.int.map (fun a:Tm=>(a.args.length:Int))).lex ((TP.str.map Tm.name).lex TP.zero)))
   have h2:TP (fun a b:Tm=>cmpL (cmpT d) a.args b.args):=(TP.list (TP.tm d)).map Tm.args
   exact h1.lex h2
theorem cmpF_eq {a b:Ft}(hd:dle 5 a.t):cmpF a b=0↔a=b:=by
 rw [qol hd,eqF]
 simp only [Bool.and_eq_true,beq_iff_eq,qgD 5 a.t b.t hd]
 cases a;cases b;simp
theorem qrN {a b:Ft}(ha:qer a=true)(hb:qer b=true)(h:qd6 a b=true):a=b:=by
 simp only [qd6,Bool.and_eq_true,decide_eq_true_eq] at h
 obtain ⟨⟨h1,h2⟩,h3⟩:=h
 have h4:keyL 5 a.t++[]=keyL 5 b.t++[]:=by
  simp only [List.append_nil]
  have:=congrArg (fun s:ByteArray=>s.data.toList) h1
  simpa [keyS] using this
 have h5:=(qqh 5 a.t b.t (qd8 ha).2.2 (qd8 hb).2.2 (qd8 ha).2.1 (qd8 hb).2.1 [] [] h4).1
 cases a;cases b;simp only at h5 h2 h3;subst h5 h2 h3;rfl
theorem qoR (a:Ft):qd6 a a=true:=by simp [qd6]
end Go.Proofs.YtpgceiijoedppaaGreat
namespace Go.Proofs.YtpgceiijoedppaaGreat
open Go
theorem cmpT_eq {a b:Tm}(h:dle 5 a):cmpT 5 a b=0↔a=b:=by rw [qge 5 a b h,qgD 5 a b h]
def SS (l:List Tm):Prop:=l.Pairwise fun a b=>cmpT 5 a b<0
theorem SS.nodup {l:List Tm}(h:SS l):l.Nodup:=h.imp fun {a b} h e=>by
 subst e;rw [(TP.tm 5).self a] at h;omega
theorem SS.uniq {l m:List Tm}(hl:SS l)(hm:SS m)(h:∀ x,x∈l↔x∈m):l=m:=by
 refine List.Perm.eq_of_pairwise (le:=fun a b=>cmpT 5 a b<0) (fun a b ha hb h1 h2=>?_) hl hm ((List.perm_ext_iff_of_nodup hl.nodup hm.nodup).2 h)
 have:=(TP.tm 5).anti a b;omega
section
variable {α:Type}
def cmpG (f:α→α→Int):List α→List α→Int
 | [],[]=>0
 | [],_::_=>-1
 | _::_,[]=>1
 | a::x,b::y=>if f a b=0 then cmpG f x y else f a b
theorem qen (f:α→α→Int):∀ (x y:List α) (k:Nat),k≤x.length→k≤y.length→(∀ j a b,j<k→x[j]?=some a→y[j]?=some b→f a b=0)→cmpG f x y=cmpG f (x.drop k) (y.drop k)
 | x,y,0,_,_,_=>by simp
 | [],_,k+1,h,_,_=>by simp at h
 | _::_,[],k+1,_,h,_=>by simp at h
 | a::x,b::y,k+1,h1,h2,h=>by
   rw [cmpG,if_pos (h 0 a b (by omega) E E),List.drop_succ_cons,List.drop_succ_cons]
   exact qen f x y k (by simpa using h1) (by simpa using h2) fun j a b hj ha hb=>h (j+1) a b zO (by simpa using ha) (by simpa using hb)
theorem qok {f:α→α→Int}(h:TP f):∀ l m:List α,cmpG f m l=- cmpG f l m
 | [],[]=>rfl
 | [],_::_=>rfl
 | _::_,[]=>rfl
 | a::l,b::m=>by
   have ih:=qok h l m
   have:=h.anti a b
   simp only [cmpG]
   by_cases e:f a b=0
   ·rw [if_pos e,if_pos (by omega)];exact ih
   ·rw [if_neg e,if_neg (by omega)];exact this
theorem qsz {f:α→α→Int}(h:TP f):∀ a b c:List α,cmpG f a b≤0→cmpG f b c≤0→cmpG f a c≤0
 | [],[],[],_,_=>by simp [cmpG]
 | [],_,_::_,_,_=>by simp [cmpG]
 | [],_::_,[],_,h=>by simp [cmpG] at h
 | _::_,[],_,h,_=>by simp [cmpG] at h
 | _::_,_::_,[],_,h=>by simp [cmpG] at h
 | x::a,y::b,z::c,h1,h2=>by
   have ih:=qsz h a b c
   simp only [cmpG] at h1 h2 ⊢
   by_cases e1:f x y=0
   ·rw [if_pos e1] at h1
    by_cases e2:f y z=0
    ·rw [if_pos e2] at h2
     rw [if_pos (h.eq e1 e2)];exact ih h1 h2
    ·rw [if_neg e2] at h2
     have:=h.lt2 (a:=x) (b:=y) (c:=z) (by omega) (by omega)
     rw [if_neg (by omega)];omega
   ·rw [if_neg e1] at h1
    have h3:f y z≤0:=by
     by_cases e2:f y z=0
     ·omega
     ·rw [if_neg e2] at h2;exact h2
    have:=h.lt1 (a:=x) (b:=y) (c:=z) (by omega) h3
    rw [if_neg (by omega)];omega
theorem TP.listG {f:α→α→Int}(h:TP f):TP (cmpG f):=⟨qok h,qsz h⟩
theorem qk7 {f:α→α→Int}:∀ {x y:List α},(∀ a∈x,∀ b∈y,f a b=0→a=b)→cmpG f x y=0→x=y
 | [],[],_,_=>rfl
 | [],_::_,_,h=>by simp [cmpG] at h
 | _::_,[],_,h=>by simp [cmpG] at h
 | a::x,b::y,hf,h=>by
   rw [cmpG] at h
   by_cases e:f a b=0
   ·rw [if_pos e] at h
    rw [hf a (by simp) b (by simp) e,qk7 (fun u hu v hv=>hf u (by simp [hu]) v (by simp [hv])) h]
   ·rw [if_neg e] at h;exact absurd h e
theorem ql8 {f g:α→α→Int}:∀ {x y:List α},(∀ a∈x,∀ b∈y,f a b=g a b)→cmpG f x y=cmpG g x y
 | [],[],_=>rfl
 | [],_::_,_=>rfl
 | _::_,[],_=>rfl
 | a::x,b::y,h=>by
   rw [cmpG,cmpG,h a (by simp) b (by simp),ql8 (fun u hu v hv=>h u (by simp [hu]) v (by simp [hv]))]
def SSG (f:α→α→Int)(l:List α):Prop:=l.Pairwise fun a b=>f a b<0
theorem SSG.uniq {f:α→α→Int}(hf:TP f){l m:List α}(hl:SSG f l)(hm:SSG f m)(h:∀ x,x∈l↔x∈m):l=m:=by
 have nd:∀ {l:List α},SSG f l→l.Nodup:=fun h=>h.imp fun {a b} h e=>by
  subst e;rw [hf.self a] at h;omega
 refine List.Perm.eq_of_pairwise (le:=fun a b=>f a b<0) (fun a b ha hb h1 h2=>?_) hl hm ((List.perm_ext_iff_of_nodup (nd hl) (nd hm)).2 h)
 have:=hf.anti a b;omega
def posG (f:α→α→Int)(t:α):List α→Nat
 | []=>0
 | a::l=>if posG f t l=0∧0<f a t then 0 else posG f t l+1
theorem qh8 (f:α→α→Int)(t:α):∀ l:List α,posG f t l≤l.length
 | []=>Nat.le_refl _
 | a::l=>by
   have:=qh8 f t l
   rw [posG,List.length_cons];split<;>omega
theorem qkG (f:α→α→Int)(t:α):∀ (l:List α),(∀ j a,posG f t l≤j→l[j]?=some a→0<f a t)∧(∀ a,0<posG f t l→l[posG f t l-1]?=some a→¬ 0<f a t)
 | []=>⟨fun j a _ h=>by simp at h,fun a h=>by simp [posG] at h⟩
 | b::l=>by
   obtain ⟨h1,h2⟩:=qkG f t l
   refine ⟨fun j a hj ha=>?_,fun a hp ha=>?_⟩
   ·rw [posG] at hj
    split at hj
    ·rename_i h
     cases j with
     | zero=>simp only [List.getElem?_cons_zero,Option.some.injEq] at ha;subst ha;exact h.2
     | succ j=>exact h1 j a (by omega) (by simpa using ha)
    ·cases j with
     | zero=>omega
     | succ j=>exact h1 j a (by omega) (by simpa using ha)
   ·rw [posG] at hp ha
    split at hp
    ·omega
    ·rename_i h
     rw [if_neg h] at ha
     rw [Nat.add_sub_cancel] at ha
     by_cases h0:posG f t l=0
     ·rw [h0,List.getElem?_cons_zero,Option.some.injEq] at ha
      subst ha;exact fun h3=>h ⟨h0,h3⟩
     ·obtain ⟨q,hq⟩:∃ q,posG f t l=q+1:=⟨posG f t l-1,by omega⟩
      rw [hq,List.getElem?_cons_succ] at ha
      exact h2 a zO (by rw [hq,Nat.add_sub_cancel];exact ha)
theorem qg8 {f:α→α→Int}{t:α}{l:List α}{k:Nat}(hk:k≤l.length)(h1:∀ j a,k≤j→l[j]?=some a→0<f a t)(h2:∀ a,0<k→l[k-1]?=some a→¬ 0<f a t):posG f t l=k:=by
 obtain ⟨s1,s2⟩:=qkG f t l
 have hle:=qh8 f t l
 rcases Nat.lt_trichotomy (posG f t l) k with h|h|h
 ·exfalso
  obtain ⟨a,ha⟩:∃ a,l[k-1]?=some a:=⟨l[k-1],List.getElem?_eq_getElem (by omega)⟩
  exact h2 a zO ha (s1 (k-1) a zO ha)
 ·exact h
 ·exfalso
  obtain ⟨a,ha⟩:∃ a,l[posG f t l-1]?=some a:=⟨l[posG f t l-1],List.getElem?_eq_getElem (by omega)⟩
  exact s2 a zO ha (h1 (posG f t l-1) a zO ha)
def qh4 (f:α→α→Int)(t:α)(l:List α):Bool:=match posG f t l with
 | 0=>false
 | k+1=>match l[k]? with
   | some a=>decide (f a t=0)
   | none=>false
def putG (f:α→α→Int)(l:List α)(t:α):List α:=if qh4 f t l=true then l else l.take (posG f t l)++t::l.drop (posG f t l)
theorem putG_len (f:α→α→Int)(l:List α)(t:α):l.length≤(putG f l t).length∧(putG f l t).length≤l.length+1:=by
 have:=qh8 f t l
 rw [putG];split
 ·omega
 ·simp;omega
theorem putG_mem {f:α→α→Int}{D:α→Prop}(hz:∀ a b,D a→D b→f a b=0→a=b){l:List α}{t:α}(hl:∀ a∈l,D a)(ht:D t){x:α}:x∈putG f l t↔x∈l∨x=t:=by
 rw [putG]
 split
 ·rename_i h
  refine ⟨fun h=>.inl h,fun h2=>?_⟩
  rcases h2 with h2|rfl
  ·exact h2
  ·rw [qh4] at h
   split at h
   ·cases h
   ·rename_i k hk
    split at h
    ·rename_i a ha
     have hm:=List.mem_of_getElem? ha
     rw [← hz a x (hl a hm) ht (by simpa using h)];exact hm
    ·cases h
 ·conv=>rhs;rw [← List.take_append_drop (posG f t l) l]
  simp only [List.mem_append,List.mem_cons]
  constructor
  ·rintro (h|h|h)
   ·exact .inl (.inl h)
   ·exact .inr h
   ·exact .inl (.inr h)
  ·rintro ((h|h)|h)
   ·exact .inl h
   ·exact .inr (.inr h)
   ·exact .inr (.inl h)
theorem putG_ss {f:α→α→Int}(hf:TP f){l:List α}{t:α}(hs:SSG f l):SSG f (putG f l t):=by
 rw [putG]
 split
 ·exact hs
 ·rename_i hn
  obtain ⟨s1,s2⟩:=qkG f t l
  have hle:=qh8 f t l
  have hpw:=List.pairwise_iff_getElem.1 hs
  have hb:∀ a∈l.take (posG f t l),f a t<0:=fun a ha=>by
   obtain ⟨j,hj⟩:=List.getElem?_of_mem ha
   have hj2:j<posG f t l:=by
    have:=(List.getElem?_eq_some_iff.1 hj).1
    rw [List.length_take] at this;omega
   rw [List.getElem?_take,if_pos hj2] at hj
   obtain ⟨q,hq⟩:∃ q,posG f t l=q+1:=⟨posG f t l-1,by omega⟩
   obtain ⟨b,hb⟩:∃ b,l[q]?=some b:=⟨l[q],List.getElem?_eq_getElem (by omega)⟩
   have h3:¬ 0<f b t:=s2 b (by omega) (by rw [hq,Nat.add_sub_cancel];exact hb)
   have h4:f b t≠0:=fun e=>hn (by rw [qh4,hq];simp only [hb,e,decide_true])
   obtain ⟨j1,j2⟩:=List.getElem?_eq_some_iff.1 hj
   obtain ⟨q1,q2⟩:=List.getElem?_eq_some_iff.1 hb
   by_cases hjq:j=q
   ·subst hjq;rw [hj] at hb;cases hb;omega
   ·have:=hpw j q j1 q1 (by omega)
    rw [j2,q2] at this
    exact hf.lt1 this zO
  have ha:∀ a∈l.drop (posG f t l),f t a<0:=fun a ha=>by
   obtain ⟨j,hj⟩:=List.getElem?_of_mem ha
   rw [List.getElem?_drop] at hj
   have:=s1 _ a (Nat.le_add_right _ _) hj
   have:=hf.anti a t;omega
  refine List.pairwise_append.2 ⟨hs.sublist (List.take_sublist _ _),List.pairwise_cons.2 ⟨ha,hs.sublist (List.drop_sublist _ _)⟩,fun x hx y hy=>?_⟩
  rcases List.mem_cons.1 hy with rfl|hy
  ·exact hb x hx
  ·exact hf.lt1 (hb x hx) (by have:=ha y hy;omega)
def qbK (f:α→α→Int)(l m:List α):List α:=m.foldl (putG f) l
theorem qjf {f:α→α→Int}(hf:TP f){D:α→Prop}(hz:∀ a b,D a→D b→f a b=0→a=b):∀ (m l:List α),(∀ a∈l,D a)→(∀ a∈m,D a)→SSG f l→SSG f (qbK f l m)∧∀ x,x∈qbK f l m↔x∈l∨x∈m
 | [],l,_,_,h=>⟨h,fun x=>by simp [qbK]⟩
 | t::m,l,hl,hm,h=>by
   have h1:=fun x=>putG_mem (x:=x) hz hl (hm t (by simp))
   obtain ⟨h2,h3⟩:=qjf hf hz m (putG f l t) (fun a ha=>by
    rcases (h1 a).1 ha with h|rfl
    ·exact hl a h
    ·exact hm a (by simp)) (fun a ha=>hm a (by simp [ha])) (putG_ss hf h)
   refine ⟨h2,fun x=>?_⟩
   rw [qbK,List.foldl_cons]
   rw [show List.foldl (putG f) (putG f l t) m=qbK f (putG f l t) m from rfl,h3,h1,List.mem_cons]
   constructor
   ·rintro ((h|h)|h)
    ·exact .inl h
    ·exact .inr (.inl h)
    ·exact .inr (.inr h)
   ·rintro (h|h|h)
    ·exact .inl (.inl h)
    ·exact .inl (.inr h)
    ·exact .inr h
def qly (f:α→α→Int):α→List α→List α
 | _,[]=>[]
 | p,a::l=>if f a p=0 then qly f a l else a::qly f a l
def qgd (f:α→α→Int):List α→List α
 | []=>[]
 | a::l=>a::qly f a l
theorem ql5 {f:α→α→Int}(hf:TP f){D:α→Prop}(hz:∀ a b,D a→D b→f a b=0→a=b):∀ (l:List α) (p:α),D p→(∀ a∈l,D a)→((p::l).Pairwise fun x y=>¬ f y x<0)→SSG f (p::qly f p l)∧∀ x,x∈p::qly f p l↔x∈p::l
 | [],p,_,_,_=>⟨List.pairwise_singleton _ _,fun x=>Iff.rfl⟩
 | a::l,p,hp,hl,hs=>by
   obtain ⟨h1,h2⟩:=List.pairwise_cons.1 hs
   obtain ⟨i1,i2⟩:=ql5 hf hz l a (hl a (by simp)) (fun b hb=>hl b (by simp [hb])) h2
   rw [qly]
   split
   ·rename_i h
    have e:=hz a p (hl a (by simp)) hp h
    subst e
    refine ⟨i1,fun x=>?_⟩
    rw [i2];simp
   ·rename_i h
    have h3:f p a<0:=by have:=h1 a (by simp);have:=hf.anti a p;omega
    refine ⟨List.pairwise_cons.2 ⟨fun y hy=>?_,i1⟩,fun x=>?_⟩
    ·rcases List.mem_cons.1 hy with rfl|hy
     ·exact h3
     ·exact hf.lt1 h3 (by have:=(List.pairwise_cons.1 i1).1 y hy;omega)
    ·rw [List.mem_cons,i2,List.mem_cons,List.mem_cons,List.mem_cons]
theorem qre {f:α→α→Int}(hf:TP f){D:α→Prop}(hz:∀ a b,D a→D b→f a b=0→a=b)(l:List α)(hl:∀ a∈l,D a)(hs:l.Pairwise fun x y=>¬ f y x<0):SSG f (qgd f l)∧∀ x,x∈qgd f l↔x∈l:=by
 cases l with
 | nil=>exact ⟨List.Pairwise.nil,fun x=>Iff.rfl⟩
 | cons a l=>exact ql5 hf hz l a (hl a (by simp)) (fun b hb=>hl b (by simp [hb])) hs
end
end Go.Proofs.YtpgceiijoedppaaGreat
set_option maxRecDepth 8000
namespace Go.Proofs.YtpgceiijoedppaaGreat
open Go
def fitsB (a t:Tm):Bool:=decide ((fitR 5 [] a t).2=0)
def ansL (k:List Tm)(a:Tm):List (List Bd):=(k.filter (fitsB a)).map fun t=>(fitR 5 [] a t).1
def qsu (l:List Bd)(g:Gd):Bool:=mayT (putT l g.l)&&mayT (putT l g.r)&&guardC g.kind (putT l g.l) (putT l g.r)
def keyOne (b:Bd):ByteArray:=b.name++⟨#[32]⟩++⟨(keyL 5 b.t).toArray⟩
def keyB (l:List Bd):ByteArray:=l.foldl (fun s b=>s++keyOne b) ⟨#[]⟩
def onceS (x:List (List Bd))(y:List Bd):List (List Bd):=if (x.map keyB).any (fun s=>decide (s=keyB y))=true then x else x++[y]
def onceL (l:List (List Bd)):List (List Bd):=l.foldl onceS []
def behL (k:List Tm)(l:List Bd)(g:Gd):List (List Bd):=
 if g.kind=5 then (if (mayT (putT l g.l)&&flatB (putT l g.l))=true then ((ansL k (putT l g.l)).filter fun y=>decide (qgY l y=0)).map fun y=>qdT l y else [])
 else if g.kind=6 then (if (mayT (putT l g.l)&&qfJ (putT l g.l)&&!(flatB (putT l g.l)&&decide (0<(ansL k (putT l g.l)).length)))=true then [l] else [])
 else if qsu l g=true then [l] else []
def allStep (k:List Tm)(X:List (List Bd))(g:Gd):List (List Bd):=onceL (X.flatMap fun b=>behL k b g)
def allX (k:List Tm)(l:List Bd)(gs:List Gd):List (List Bd):=gs.foldl (allStep k) [l]
def allOk (k:List Tm)(l:List Bd)(gs:List Gd):Bool:=(List.range gs.length).all fun i=>decide ((allX k l (gs.take (i+1))).length≤1000)
def allL (k:List Tm)(l:List Bd)(gs:List Gd):List (List Bd):=if allOk k l gs=true then allX k l gs else []
theorem qpp (l:List Bd)(hl:BOk l):PF 178 [bdA l] (.dat true 5 (bdDs l)):=by
 have hlen:=qaR l
 have hll:=hl.len
 refine qI Tryz.func178 E Tryz.ntmps178 zL fun c hL hQ hDD=>(qd (qb (zX E (zK (qd (qd ?_))))));refine qb (zX E (zA E (qu E qA E) (zX E (zK (qv (qac (l.length) (fun k=>k≤l.length) (fun k=>⟨[(2,.row 2),(5,bdA l),(6,iv (bdDs l).length),(7,iv (k:Int))],[(2,.rowd 143 5 true (bdDs (l.take k)))]⟩) zO ?_ (fun k hk hp=>?_)))))))
 ·exact Sub.trans (qam (t:=2) (l:=2) 143 5 true E E) (qC (zC E (zC E (zC E (zC E SubT.nil)))) (SubO.cons (qU E (by rfl)) SubO.nil) E E (noL' (noL hL) _))
 have hl2:(bdDs (l.take k)).length≤l.length:=by rw [qaR,List.length_take];omega
 refine qd (qb (zA E (qj E E E E) (zK (qd (qo E (fun c0=>?_) (fun c0=>?_))))))
 ·simp only[↓cqA,cqB]at c0
  obtain ⟨u,hu⟩:=qM (l:=l) (k:=k) (by omega)
  have hum:=hl.el u (List.mem_of_getElem? hu)
  have key:=qsO 5 u.t (qgy hum.2).1 hum.1.2
  rw [qmE 5 u.t 24 hum.2] at key
  refine qr (qa (qd (qv (qd (qb (zA E (qp E qA E E zO (qbj hu)) (zA E (qD E qa1 E E) ?_)))))))
  refine qt E E zD (qat 4 E qa7 E) E (qT E E E qa1 E E E E E E E E E (zK (qX 8 mixed E E E E (zU E (ql (.inl E) E) (zU E (qe E qa5 E) (zU E (qi E qar E E E E E) ?_))))));refine zU E (qe E qbc E) (zU E (qi E qz E E E E E) (zU E (qai (avs:=[_]) true E qib E E (key) (fun _=>rfl) E) (zU E (qaF E qa7 E qez E E) (qhr E zD (.run E (qaj 18 E qA qa7 E E zD zD zD E E E)) (qaq ⟨rfl,rfl,?_⟩)))))
  refine qbW E E zD (qaU 19 qbr E E E E E E E E (noL hL _) zO E) E (zX E (qc (qR (qa (qb (zA E (qO E E E zO) (zX E ?_)))))));refine zK ?_;refine ⟨?_,?_,?_⟩
  ·omega
  ·omega
  exact Sub.trans (qZ 19 2 (noL hL _) (noL hL _)) (qC (zC E (zC E (zC E (zC E SubT.nil)))) (SubO.cons (qU E (by rw [qas hu,bdDs,bdDs,List.map_append];rfl)) SubO.nil) E E (noL' (noL hL) _))
 simp only[↓cqA,cqB]at c0
 refine qV (qq (qq (qad ?_)));refine qa (qd (qbI (qaG (l:=2) E zD (noL hL _) E E) (qb (zX E (zX E (zK ?_))))));refine qn (zI hL (qg E qh) ?_ ?_)
 ·rfl
 exact ⟨by rw [List.take_of_length_le zO];rfl,rfl⟩
section
variable {P:Program}{c:Ctx}{N:Nat}{o:Oper}{σ:St}
end
end Go.Proofs.YtpgceiijoedppaaGreat
namespace Go.Proofs.YtpgceiijoedppaaGreat
open Go
variable {g:Gd}{l y:List Bd}{t:Tm}
def bnd (y:List Bd)(t:Tm):Prop:=∀ v,t.occ v→hasB y v=true
def Ext (l y:List Bd):Prop:=∀ v,hasB l v=true→hasB y v=true∧gB y v=gB l v
theorem Ext.refl (l:List Bd):Ext l l:=fun v h=>⟨h,rfl⟩
theorem Ext.put (he:Ext l y)(hb:bnd l t)(hd:dle 5 t):putT y t=putT l t:=by
 rw [qe8 hd,qe8 hd];exact qkn t fun v hv=>(he v (hb v hv)).2
theorem Ext.bnd (he:Ext l y)(hb:bnd l t):bnd y t:=fun v hv=>(he v (hb v hv)).1
def Sat (k:List Tm)(y:List Bd)(g:Gd):Prop:=bnd y g.l∧(g.kind=5→putT y g.l∈k)∧(g.kind≠5→g.kind≠6→bnd y g.r)∧(g.kind≠5→behL k y g=[y])
theorem okG_l (h:okG g=true):mayT g.l=true∧(g.kind≠5→g.kind≠6→mayT g.r=true):=by
 simp only [okG,cmpsB,Bool.or_eq_true,Bool.and_eq_true,decide_eq_true_eq] at h
 rcases h with h|h
 ·exact ⟨h.1.2,fun _ _=>h.2⟩
 ·exact ⟨h.1.2.1,fun h5 h6=>by rcases h.1.1 with e|e<;>contradiction⟩
theorem Sat.ext {k:List Tm}(hg:okG g=true)(hs:Sat k l g)(he:Ext l y):Sat k y g:=by
 obtain ⟨h1,h2,h3,h4⟩:=hs
 obtain ⟨m1,m2⟩:=okG_l hg
 have e1:=he.put h1 (qbN m1)
 refine ⟨he.bnd h1,fun h5=>by rw [e1];exact h2 h5,fun h5 h6=>he.bnd (h3 h5 h6),fun h5=>?_⟩
 have hb:=h4 h5
 unfold behL at hb ⊢
 rw [if_neg h5] at hb ⊢
 by_cases h6:g.kind=6
 ·rw [if_pos h6] at hb ⊢
  rw [e1]
  split at hb
  ·rename_i hc;rw [if_pos hc]
  ·cases hb
 ·rw [if_neg h6] at hb ⊢
  have e2:=he.put (h3 h5 h6) (qbN (m2 h5 h6))
  have e3:qsu y g=qsu l g:=by rw [qsu,qsu,e1,e2]
  rw [e3]
  split at hb
  ·rename_i hc;rw [if_pos hc]
  ·cases hb
end Go.Proofs.YtpgceiijoedppaaGreat