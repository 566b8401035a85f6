/- Part 36 of the proof: Me. -/
import Derived.Test.YtpgceiijoedppaaGreatC29
set_option linter.unusedVariables false
set_option linter.unusedSimpArgs false
namespace Go.Proofs.YtpgceiijoedppaaGreat
open Go
variable {d k:Nat}{l m x:List Mt}{p:Pt}{α:Type}
section
variable {α:Type}
theorem ql6 (f:α→α→Int):∀ (x:List α) (p a b:α),(p::x).getLast?=some b→qly f p (x++[a])=qly f p x++(if f a b=0 then [] else [a])
 | [],p,a,b,h=>by
   simp only [List.getLast?_singleton,Option.some.injEq] at h
   subst h
   simp only [List.nil_append,qly]
 | c::x,p,a,b,h=>by
   rw [List.getLast?_cons_cons] at h
   have ih:=ql6 f x c a b h
   simp only [List.cons_append,qly,ih]
   split
   ·rfl
   ·rw [List.cons_append]
theorem ql7 (f:α→α→Int){l:List α}{a b:α}(ha:l[k+1]?=some a)(hb:l[k]?=some b):qgd f (l.take (k+2))=qgd f (l.take (k+1))++(if f a b=0 then [] else [a]):=by
 cases l with
 | nil=>simp at ha
 | cons p t=>
   rw [List.getElem?_cons_succ] at ha
   rw [List.take_succ_cons,List.take_succ_cons,qas ha,qgd,qgd,ql6 f (t.take k) p a b ?_,List.cons_append]
   rw [← List.take_succ_cons,List.getLast?_eq_getElem?,List.length_take,List.getElem?_take]
   have:=(List.getElem?_eq_some_iff.1 hb).1
   rw [if_pos (by simp only [List.length_cons] at *;omega),show min (k+1) (p::t).length-1=k by simp only [List.length_cons] at *;omega]
   exact hb
theorem qog (f:α→α→Int){l:List α}(h:l.length<2):qgd f l=l:=by
 cases l with
 | nil=>rfl
 | cons a l=>cases l with
   | nil=>rfl
   | cons b l=>simp only [List.length_cons] at h;omega
theorem qlV {f g:α→α→Int}{t:α}:∀ {l:List α},(∀ a∈l,f a t=g a t)→posG f t l=posG g t l
 | [],_=>rfl
 | a::l,h=>by
   simp only [posG]
   rw [qlV (fun b hb=>h b (by simp [hb])),h a (by simp)]
theorem qqU {f g:α→α→Int}{l:List α}{t:α}(h:∀ a∈l,f a t=g a t):putG f l t=putG g l t:=by
 have h1:=qlV h
 have h2:qh4 f t l=qh4 g t l:=by
  rw [qh4,qh4,h1]
  split
  ·rfl
  ·split
   ·rename_i a ha
    rw [h a (List.mem_of_getElem? ha)]
   ·rfl
 rw [putG,putG,h1,h2]
theorem qkB {f g:α→α→Int}{D:α→Prop}(h:∀ a b,D a→D b→f a b=g a b):∀ (m l:List α),(∀ a∈l,D a)→(∀ a∈m,D a)→qbK f l m=qbK g l m
 | [],l,_,_=>rfl
 | t::m,l,hl,hm=>by
   have e:putG f l t=putG g l t:=qqU fun a ha=>h a t (hl a ha) (hm t (by simp))
   have hin:∀ a∈putG g l t,D a:=fun a ha=>by
    rw [putG] at ha
    split at ha
    ·exact hl a ha
    ·rcases List.mem_append.1 ha with h|h
     ·exact hl a (List.mem_of_mem_take h)
     ·rcases List.mem_cons.1 h with rfl|h
      ·exact hm a (by simp)
      ·exact hl a (List.mem_of_mem_drop h)
   rw [qbK,qbK,List.foldl_cons,List.foldl_cons,e]
   exact qkB h m (putG g l t) hin (fun a ha=>hm a (by simp [ha]))
end
theorem SSG.nodup {f:α→α→Int}(hf:TP f){l:List α}(h:SSG f l):l.Nodup:=h.imp fun {a b} h e=>by
 subst e;rw [hf.self a] at h;omega
def qcb (l:List Mt):List Mt:=qbK cmpM [] l
theorem qcO (h:∀ m∈l,MayM m):SSG cmpM (qcb l)∧∀ x,x∈qcb l↔x∈l:=by
 obtain ⟨h1,h2⟩:=qjf TP.mt (D:=MayM) (fun a b ha hb=>qk6 ha hb) l [] (fun a ha=>by cases ha) h List.Pairwise.nil
 exact ⟨h1,fun x=>by rw [qcb,h2];simp⟩
theorem qr1 (hl:∀ x∈l,MayM x)(h:∀ x,x∈l↔x∈m):qcb l=qcb m:=by
 have hm:∀ x∈m,MayM x:=fun x hx=>hl x ((h x).2 hx)
 obtain ⟨a1,a2⟩:=qcO hl
 obtain ⟨b1,b2⟩:=qcO hm
 exact a1.uniq TP.mt b1 fun x=>by rw [a2,b2,h]
theorem qr0 (hm:∀ x∈m,MayM x)(h:∀ x∈l,x∈m):(qcb l).length≤(qcb m).length:=by
 have hl:∀ x∈l,MayM x:=fun x hx=>hm x (h x hx)
 obtain ⟨a1,a2⟩:=qcO hl
 obtain ⟨b1,b2⟩:=qcO hm
 exact (a1.nodup TP.mt).length_le_of_subset fun x hx=>(b2 x).2 (h x ((a2 x).1 hx))
theorem qnN (h:∀ m∈l,MayM m):(qcb l).length≤l.length:=by
 obtain ⟨a1,a2⟩:=qcO h
 exact (a1.nodup TP.mt).length_le_of_subset fun x hx=>(a2 x).1 hx
theorem qrZ (hl:∀ x∈l,MayM x)(hp:m.Perm l)(hs:m.Pairwise fun x y=>¬ cmpM y x<0):qgd cmpM m=qcb l:=by
 obtain ⟨a1,a2⟩:=qcO hl
 obtain ⟨b1,b2⟩:=qre TP.mt (D:=MayM) (fun a b ha hb=>qk6 ha hb) m (fun a ha=>hl a (hp.mem_iff.1 ha)) hs
 exact b1.uniq TP.mt a1 fun x=>by rw [a2,b2,hp.mem_iff]
theorem qg6 (hl:∀ x∈l,MayM x)(hm:∀ x∈m,MayM x)(hs:SSG cmpM l):qbK ordM l m=qcb (l++m):=by
 rw [qkB (D:=MayM) (fun a b ha hb=>ordM_cmp ha hb) m l hl hm]
 obtain ⟨h1,h2⟩:=qjf TP.mt (D:=MayM) (fun a b ha hb=>qk6 ha hb) m l hl hm hs
 obtain ⟨a1,a2⟩:=qcO (l:=l++m) (fun x hx=>by
  rcases List.mem_append.1 hx with h|h
  ·exact hl x h
  ·exact hm x h)
 exact h1.uniq TP.mt a1 fun x=>by rw [a2,h2,List.mem_append]
theorem qnu {t:Tm}(ht:mayT t=true)(hw:t.wf){l:List Kp}(hl:qhK l)(hk:∀ k∈l,k.wf):∀ m∈l.filterMap (qcj t),MOk 1 m:=fun m hm=>by
 obtain ⟨k,hk1,hk2⟩:=List.mem_filterMap.1 hm
 exact qj1 ht hw (hl.2 k hk1) (hk k hk1) hk2
def qdj (kind rel:Int)(c l r:List Mt):List Mt:=l.flatMap fun a=>r.filterMap (qb0 kind rel c a)
theorem qiP {n:Nat}{kind rel:Int}{c r:List Mt}(hl:∀ a∈l,MOk n a)(hr:∀ b∈r,MOk k b):∀ m∈qdj kind rel c l r,MOk (n+k) m:=fun m hm=>by
 obtain ⟨a,ha,h⟩:=List.mem_flatMap.1 hm
 obtain ⟨b,hb,h⟩:=List.mem_filterMap.1 h
 exact qkb (hl a ha) (hr b hb) h
theorem capM_ss (h:SSG cmpM x):SSG cmpM (capM x).1:=by
 rw [capM];split
 ·exact h
 ·exact List.Pairwise.nil
theorem qo2 {l:List Kp}(hl:qhK l)(hw:∀ k∈l,k.wf):∀ (d:Nat) (p:Pt),p.wf→patB d p=true→SSG cmpM (mAll d l p).1∧
   (d≠0→p.kind=1→mAll d l p=(qcb (l.filterMap (qcj p.t)),true))
 | 0,p,_,h=>by rw [patB] at h;cases h
 | d+1,p,hp,h=>by
   have hm:=qcs hl hw (d+1) p hp h
   rw [mAll] at hm ⊢
   split
   ·rename_i hk
    obtain ⟨h1,_⟩:=qiz h hk
    have hmay:∀ m∈l.filterMap (qcj p.t),MayM m:=fun m hm=>(qnu h1 hp.2.1 hl hw m hm).may
    have e:=qg6 (l:=[]) (fun x hx=>by cases hx) hmay List.Pairwise.nil
    rw [List.nil_append] at e
    rw [e]
    have hlen:=qnN hmay
    have h3:=List.length_filterMap_le (qcj p.t) l
    have h4:=hl.1
    exact ⟨(qcO hmay).1,fun _ _=>by rw [decide_eq_true zO]⟩
   ·rename_i hk
    refine ⟨?_,fun _ h=>absurd h hk⟩
    obtain ⟨_,_,_,_,_,h1,h2,_⟩:=qdV h hk
    have hA:=qcs hl hw d (hdP p.l) (qds hp.2.2.2.1.2) h1
    have hB:=qcs hl hw d (hdP p.r) (qds hp.2.2.2.2.1.2) h2
    split
    ·by_cases h4:p.kind=4
     ·rw [if_pos h4]
      have sA:=(qo2 hl hw d (hdP p.l) (qds hp.2.2.2.1.2) h1).1
      rw [qg6 (fun x hx=>(hA x hx).may) (fun x hx=>(hB x hx).may) sA]
      refine (qcO fun x hx=>?_).1
      rcases List.mem_append.1 hx with h|h
      ·exact (hA x h).may
      ·exact (hB x h).may
     ·rw [if_neg h4]
      have hf:=qiP (kind:=p.kind) (rel:=p.rel) (c:=if p.kind=5 then (mAll d l (hdP p.c)).1 else []) hA hB
      have e:=qg6 (l:=[]) (fun x hx=>by cases hx) (fun x hx=>(hf x hx).may) List.Pairwise.nil
      rw [List.nil_append] at e
      rw [qdj] at e
      rw [e]
      exact capM_ss (qcO fun x hx=>(hf x hx).may).1
    ·exact List.Pairwise.nil
theorem qsc {l:List Kp}(hl:qhK l)(hw:∀ k∈l,k.wf)(hp:p.wf)(h:patB (d+1) p=true)(hk:p.kind=4)(ha:(mAll d l (hdP p.l)).2=true)(hb:(mAll d l (hdP p.r)).2=true):mAll (d+1) l p=(qcb ((mAll d l (hdP p.l)).1++(mAll d l (hdP p.r)).1),decide ((qcb ((mAll d l (hdP p.l)).1++(mAll d l (hdP p.r)).1)).length≤1000)):=by
 obtain ⟨_,_,_,_,_,h1,h2,_⟩:=qdV h (by omega)
 have hA:=qcs hl hw d (hdP p.l) (qds hp.2.2.2.1.2) h1
 have hB:=qcs hl hw d (hdP p.r) (qds hp.2.2.2.2.1.2) h2
 have sA:=(qo2 hl hw d (hdP p.l) (qds hp.2.2.2.1.2) h1).1
 rw [mAll,if_neg (by omega),if_pos (by rw [ha,hb,hk];rfl),if_pos hk,qg6 (fun x hx=>(hA x hx).may) (fun x hx=>(hB x hx).may) sA]
theorem qnV {l:List Kp}(hl:qhK l)(hw:∀ k∈l,k.wf)(hp:p.wf)(h:patB (d+1) p=true)(hk:p.kind≠1)(hk4:p.kind≠4)(ha:(mAll d l (hdP p.l)).2=true)(hb:(mAll d l (hdP p.r)).2=true)(hc:p.kind=5→(mAll d l (hdP p.c)).2=true):mAll (d+1) l p=capM (qcb (qdj p.kind p.rel (if p.kind=5 then (mAll d l (hdP p.c)).1 else []) (mAll d l (hdP p.l)).1 (mAll d l (hdP p.r)).1)):=by
 obtain ⟨_,_,_,_,_,h1,h2,_⟩:=qdV h hk
 have hA:=qcs hl hw d (hdP p.l) (qds hp.2.2.2.1.2) h1
 have hB:=qcs hl hw d (hdP p.r) (qds hp.2.2.2.2.1.2) h2
 have hf:=qiP (kind:=p.kind) (rel:=p.rel) (c:=if p.kind=5 then (mAll d l (hdP p.c)).1 else []) hA hB
 have e:=qg6 (l:=[]) (fun x hx=>by cases hx) (fun x hx=>(hf x hx).may) List.Pairwise.nil
 rw [List.nil_append] at e
 rw [mAll,if_neg hk,if_pos ?_,if_neg hk4]
 ·rw [qdj] at e
  rw [e];rfl
 ·rw [ha,hb]
  by_cases h5:p.kind=5
  ·rw [hc h5];simp
  ·have:(p.kind != 5)=true:=by simpa using h5
   rw [this];rfl
def tryM (t:Tm)(k:Kp):Mt:=⟨(fitR 5 [] t k.f.t).1,k.f.fr,k.f.to,[k.seq]⟩
theorem qqv (x:List Mt):(capM x).2=decide (x.length≤1000):=by
 rw [capM];split
 ·rw [decide_eq_true (by assumption)]
 ·rw [decide_eq_false (by assumption)]
theorem capM_fst (h:(capM x).2=true):(capM x).1=x:=by
 rw [capM] at h ⊢;split at h
 ·rw [if_pos (by assumption)]
 ·cases h
def newM (n:Int)(m:Mt):Bool:=m.u.any fun k=>decide (k≥n)
end Go.Proofs.YtpgceiijoedppaaGreat