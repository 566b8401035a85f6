/- Part 14 of the proof: Fd. -/
import Derived.Test.YtpgceiijoedppaaGreatC13
set_option linter.unusedVariables false
set_option linter.unusedSimpArgs false
set_option maxRecDepth 8000
namespace Go.Proofs.YtpgceiijoedppaaGreat
open Go Go.Maps Go.Sort Go.Shelf Go.RowKit
def litS (ss:List ByteArray):List Lit:=ss.map fun s=>.string s.data.toList
theorem qqe {ss:List ByteArray}{s:ByteArray}:Lit.string s.data.toList∈litS ss↔s∈ss:=by
 simp only [litS,List.mem_map,Lit.string.injEq]
 constructor
 ·rintro ⟨u,hu,e⟩
  have:u=s:=by cases u;cases s;congr 1;exact Array.toList_inj.1 e
  rw [← this];exact hu
 ·intro h;exact ⟨s,h,rfl⟩
theorem qo3 (ss:List ByteArray):(litS ss).length=ss.length:=by simp [litS]
noncomputable abbrev mpS (ss:List ByteArray):Ob:=.mp Tryz.prog 9 (litS ss)
def qdW:Nat→Tm→List ByteArray→List ByteArray
 | 0,_,ss=>ss
 | d+1,t,ss=>t.args.foldl (fun s u=>qdW d u s) (if t.kind=1 then t.name::ss else ss)
def qeA:Nat→Tm→Nat
 | 0,_=>0
 | d+1,t=>1+(t.args.map (qeA d)).sum
theorem qnO:∀ (d:Nat) (t:Tm) (ss:List ByteArray),(qdW d t ss).length≤ss.length+qeA d t
 | 0,t,ss=>by simp [qdW,qeA]
 | d+1,t,ss=>by
   have key:∀ (l:List Tm) (ss:List ByteArray),(l.foldl (fun s u=>qdW d u s) ss).length≤ss.length+(l.map (qeA d)).sum:=fun l=>by
    induction l with
    | nil=>intro ss;simp
    | cons a l ih=>
      intro ss
      have h1:=ih (qdW d a ss)
      have h2:=qnO d a ss
      simp only [List.foldl_cons,List.map_cons,List.sum_cons];omega
   simp only [qdW,qeA]
   have:=key t.args (if t.kind=1 then t.name::ss else ss)
   have h3:(if t.kind=1 then t.name::ss else ss).length≤ss.length+1:=by split<;>simp
   omega
theorem qiF (d:Nat):∀ (l:List Tm) (ss:List ByteArray),(l.foldl (fun s u=>qdW d u s) ss).length≤ss.length+(l.map (qeA d)).sum
 | [],ss=>by simp
 | a::l,ss=>by
   have h1:=qiF d l (qdW d a ss)
   have h2:=qnO d a ss
   simp only [List.foldl_cons,List.map_cons,List.sum_cons];omega
theorem qfi {l:List Tm}{k:Nat}{u:Tm}(f:Tm→Nat)(h:l[k]?=some u):((l.take k).map f).sum+f u≤(l.map f).sum:=by
 have h2:=List.getElem?_eq_some_iff.1 h
 have:l=l.take k++l.drop k:=(List.take_append_drop k l).symm
 rw [List.drop_eq_getElem_cons h2.1,h2.2] at this
 have h3:=congrArg (fun l=>(l.map f).sum) this
 simp only [List.map_append,List.sum_append,List.map_cons,List.sum_cons] at h3
 omega
theorem qpr:∀ (d:Nat) (t:Tm) (ss:List ByteArray),dle d t→t.wf→ss.length+qeA d t≤1000000→AC Tryz.prog 239 [tmA false t,.map 0] [(0,mpS ss)] (fun r O=>r=.tup []∧O=[(0,mpS (qdW d t ss))])
 | 0,t,ss,h,_,_=>h.elim
 | d+1,t,ss,h,ht,hn=>by
   have hal:=ht.2.2.2.1
   have hnm:=ht.2.1
   have hlen:=qaY t.args
   have hmx:maxLen=9223372036854775807:=rfl
   simp only [qeA] at hn
   refine qI Tryz.func239 E Tryz.ntmps239 zL fun c hL hQ hDD=>(qd (qb (qt E E zD (q6 2 E E E) E (zK (qd (qd ?_))))));refine qb (zA E (qe E qaL E) (zA E (qi E qQ E E E E E) (zA E (qj E E E E) (zK (qo E (fun c0=>?_) (fun c0=>?_))))))
   ·simp only[↓cqA,cqB]at c0
    refine qb ?_;refine zX E ?_;refine zA E (qe E qay E) ?_;refine zA E (qi E qar E E E E E) ?_;refine qif E E E qij E E E E E (Go.WideMaps.keyOf_string_mk qbA zO) (by rw [qo3];omega) ?_;refine qc ?_;refine qa ?_;refine qd ?_;refine qb ?_;refine zA E (qe E qaa E) (zA E (qi E q9 E E E E E) (zA E (qu E qN E) (zX E (zK (qv (qac (t.args.length) (fun k=>k≤t.args.length) (fun k=>⟨[(1,.map 0),(13,.dat false 4 (tmDs t.args)),(14,iv (tmDs t.args).length),(15,iv (k:Int))],[(0,mpS ((t.args.take k).foldl (fun s u=>qdW d u s) (if t.kind=1 then t.name::ss else ss)))]⟩) zO ?_ (fun k hk hp=>?_)))))))
    ·exact qC (zC E (zC E (zC E (zC E SubT.nil)))) (SubO.cons (qU E (by simp [c0,litS])) SubO.nil) rfl rfl (LO hL rfl)
    refine qd (qb (zA E (qj E E E E) (zK (qd (qo E (fun c1=>?_) (fun c1=>?_))))))
    ·simp only[↓cqA,cqB]at c1
     obtain ⟨u,hu⟩:=qM (l:=t.args) (k:=k) (by omega)
     have hum:=List.mem_of_getElem? hu
     have hs1:=qiF d (t.args.take k) (if t.kind=1 then t.name::ss else ss)
     have hs2:=qfi (qeA d) hu
     have hs3:(if t.kind=1 then t.name::ss else ss).length≤ss.length+1:=by split<;>simp
     refine qr (qa (qd (qv (qd (qb (zA E (qp E qN E E zO (qbP hu)) (zA E (qD E qz E E) ?_)))))));refine qt E E zD (qat 5 E qaJ E) E (qT E E E qz E E E E E E E E E (zK (qb ?_)))
     refine zA E (qF E qz E E E E) ?_;refine zX E ?_;refine qag (avs:=[_,_]) true E E E zD qhe E E (qpr d u _ (h u hum) (Tm.wfs_mem ht.2.2.2.2 hum) zO) E (qbQ (.cons E trivial E .nil)) (by rintro r O' ⟨rfl,rfl⟩ l hl;exact .inl ((qdN (by rfl) l).trans hl)) (by rintro-r O' ⟨rfl,rfl⟩;exact ⟨rfl,rfl⟩) ?_
     rintro r O' ⟨rfl,rfl⟩
     refine qc (qR (qa (qb (zA E (qO E E E zO) (zX E (zK ?_))))));refine ⟨?_,?_,?_⟩
     ·omega
     ·omega
     exact qC (zC E (zC E (zC E (zC E SubT.nil)))) (SubO.cons (qU E (by rw [qas hu,List.foldl_append];rfl)) SubO.nil) E E (LO hL E)
    simp only[↓cqA,cqB]at c1
    refine qV (qq (qq (qad ?_)))
    change retQ _ _ _ _ _ _ _
    refine retO (O':=[(0,_)]) (.inr E) qh (SubO.cons E SubO.nil) ?_ ?_ ?_ ?_
    ·rfl
    ·rfl
    ·exact LO hL E
    exact ⟨rfl,by rw [qdW,List.take_of_length_le zO]⟩
   simp only[↓cqA,cqB]at c0
   refine qr (qa (qd (qb (zA E (qe E qaa E) (zA E (qi E q9 E E E E E) (zA E (qu E qN E) (zX E ?_)))))));refine zK (qv (qac (t.args.length) (fun k=>k≤t.args.length) (fun k=>⟨[(1,.map 0),(13,.dat false 4 (tmDs t.args)),(14,iv (tmDs t.args).length),(15,iv (k:Int))],[(0,mpS ((t.args.take k).foldl (fun s u=>qdW d u s) (if t.kind=1 then t.name::ss else ss)))]⟩) zO ?_ (fun k hk hp=>?_)))
   ·exact qC (zC E (zC E (zC E (zC E SubT.nil)))) (SubO.cons (qU E (by simp [c0,litS])) SubO.nil) rfl rfl (LO hL rfl)
   refine qd (qb (zA E (qj E E E E) (zK (qd (qo E (fun c1=>?_) (fun c1=>?_))))))
   ·simp only[↓cqA,cqB]at c1
    obtain ⟨u,hu⟩:=qM (l:=t.args) (k:=k) (by omega)
    have hum:=List.mem_of_getElem? hu
    have hs1:=qiF d (t.args.take k) (if t.kind=1 then t.name::ss else ss)
    have hs2:=qfi (qeA d) hu
    have hs3:(if t.kind=1 then t.name::ss else ss).length≤ss.length+1:=by split<;>simp
    refine qr (qa (qd (qv (qd (qb (zA E (qp E qN E E zO (qbP hu)) (zA E (qD E qz E E) ?_)))))));refine qt E E zD (qat 5 E qaJ E) E (qT E E E qz E E E E E E E E E (zK (qb ?_)))
    refine zA E (qF E qz E E E E) ?_;refine zX E ?_;refine qag (avs:=[_,_]) true E E E zD qhe E E (qpr d u _ (h u hum) (Tm.wfs_mem ht.2.2.2.2 hum) zO) E (qbQ (.cons E trivial E .nil)) (by rintro r O' ⟨rfl,rfl⟩ l hl;exact .inl ((qdN (by rfl) l).trans hl)) (by rintro-r O' ⟨rfl,rfl⟩;exact ⟨rfl,rfl⟩) ?_
    rintro r O' ⟨rfl,rfl⟩
    refine qc (qR (qa (qb (zA E (qO E E E zO) (zX E (zK ?_))))));refine ⟨?_,?_,?_⟩
    ·omega
    ·omega
    exact qC (zC E (zC E (zC E (zC E SubT.nil)))) (SubO.cons (qU E (by rw [qas hu,List.foldl_append];rfl)) SubO.nil) E E (LO hL E)
   simp only[↓cqA,cqB]at c1
   refine qV (qq (qq (qad ?_)))
   change retQ _ _ _ _ _ _ _
   refine retO (O':=[(0,_)]) (.inr E) qh (SubO.cons E SubO.nil) ?_ ?_ ?_ ?_
   ·rfl
   ·rfl
   ·exact LO hL E
   exact ⟨rfl,by rw [qdW,List.take_of_length_le zO]⟩
theorem Keys_ok (ss:List ByteArray):AC Tryz.prog 241 [.map 0] [(0,mpS ss)] (fun r O=>r=.fn 283 [.ptr 1 0]∧O=[(1,.box [.map 0]),(0,mpS ss)]):=by
 refine qI Tryz.func241 E Tryz.ntmps241 zL fun c hL hQ hDD=>(qd (qb (qt E E zD (q6 1 E E E) E (zX E (zK (qd ?_))))));refine qb (zA E (qdz (vs:=[_]) E E) (zX E (zK (qn ?_))))
 change retQ _ _ _ _ _ _ _
 refine retO (O':=[(1,_),(0,_)]) (.inl E) (qg E qh) (SubO.cons E (SubO.cons E SubO.nil)) ?_ ?_ ?_ ?_
 ·rfl
 ·rfl
 ·intro l hl
  have:=(hL l).1 hl
  simp only [inD,qa0] at this ⊢
  split
  ·rfl
  ·exact this
 exact ⟨rfl,rfl⟩
def qox (l:List ByteArray):Prop:=l.Pairwise (fun a b=>a.data.toList<b.data.toList)
def qc1 (l:List ByteArray):List (List D):=l.map fun s=>[.imm (.string s)]
theorem qbB (l:List ByteArray):(qc1 l).length=l.length:=by simp [qc1]
theorem qnx {P:Program}{k:TypeId}{w:World}{b n:Nat}{D:DataW Unit}(hk:P.underlying k=some .string)(h:w.ownsMap P k R1 b n D):(strKeys D).Nodup∧∀ x,x∈strKeys D↔has D (.string x)=true:=by
 obtain ⟨es,rfl,hp,_⟩:=h.entries (string_keyed hk)
 obtain ⟨es',he,hks⟩:=h.keysOf
 cases he
 have hk':∀ p∈es,∃ x,p.1=.string x:=fun p hp'=>by
  obtain ⟨v,hv⟩:=hks p hp'
  obtain ⟨x,_,h2,_⟩:=Maps.keyOf_str hk hv
  exact ⟨x,h2⟩
 refine ⟨?_,fun x=>?_⟩
 ·show (es.map fun p=>strOf p.1).Nodup
  refine List.pairwise_map.2 (hp.imp_of_mem fun {p q} hp' hq' hne e=>hne ?_)
  obtain ⟨a,ha⟩:=hk' p hp'
  obtain ⟨b,hb⟩:=hk' q hq'
  rw [ha,hb] at e ⊢
  exact congrArg _ e
 ·rw [has_eq,List.any_eq_true]
  show x∈es.map (fun p=>strOf p.1)↔_
  rw [List.mem_map]
  constructor
  ·rintro ⟨p,hp',hs⟩
   obtain ⟨a,ha⟩:=hk' p hp'
   rw [ha] at hs
   exact ⟨p,hp',by rw [ha];simpa [Lit.sameKey,strOf] using hs⟩
  ·rintro ⟨p,hp',hs⟩
   obtain ⟨a,ha⟩:=hk' p hp'
   rw [ha] at hs
   exact ⟨p,hp',by rw [ha];simpa [Lit.sameKey,strOf] using hs⟩
theorem qoS {l:List (List UInt8)}(h:l.Nodup):qox ((l.mergeSort leB).map fun x=>⟨x.toArray⟩):=by
 have tr:∀ a b c:List UInt8,leB a b=true→leB b c=true→leB a c=true:=fun a b c h1 h2=>by simp only [leB,decide_eq_true_eq] at *;exact List.le_trans h1 h2
 have to:∀ a b:List UInt8,(leB a b || leB b a)=true:=fun a b=>by simp only [leB,Bool.or_eq_true,decide_eq_true_eq];exact List.le_total a b
 have h1:=List.pairwise_mergeSort tr to l
 have h2:(l.mergeSort leB).Nodup:=(List.mergeSort_perm l leB).nodup_iff.2 h
 unfold qox
 rw [List.pairwise_map]
 refine (h1.and h2).imp fun {a b} ⟨h3,h4⟩=>?_
 simp only [leB,decide_eq_true_eq] at h3
 exact (List.le_iff_lt_or_eq.1 h3).resolve_right h4
theorem qsM (ss:List ByteArray)(hn:ss.length≤1000000):AC Tryz.prog 240 [.fn 283 [.ptr 1 0]] [(1,.box [.map 0]),(0,mpS ss)]
  (fun r O=>∃ L,qox L∧(∀ s,s∈L↔s∈ss)∧r=.dat true 1 (qc1 L)∧O=[(1,.box [.map 0]),(0,mpS ss)]):=by
 rintro c w vs ρ S hw0 hL hSt hDD hc
 have h0:=hc.T 0 _ E
 simp only [Rep,RepL] at h0
 obtain ⟨xs,hx,y,ys,rfl,⟨hU,b1,hb1,rfl⟩,rfl⟩:=h0
 obtain ⟨v0,rfl⟩:∃ v0,vs=[v0]:=by
  have:=hc.tm
  match vs,this with
  | [v0],_=>exact ⟨v0,rfl⟩
 have hv0:v0=.func (.func 283) #[] #[.pointer (some ⟨b1,0,none⟩)]:=by simpa using hx
 subst hv0
 obtain ⟨b,ty,ys,h1,h2,h3,h4⟩:=hc.O 1 _ rfl
 obtain ⟨r,h5,n,D0,K,hown',hnn,hmem0⟩:=hc.O 0 _ rfl
 have hmem:∀ s:ByteArray,s∈ss↔has D0 (.string s.data.toList)=true:=fun s=>by
  by_cases hs:s∈ss
  ·exact ⟨fun _=>has_true_of_atKey ((hmem0 _).1 (qqe.2 hs)),fun _=>hs⟩
  ·have:=has_false_of_atKey ((hmem0 (.string s.data.toList)).2 (fun h=>hs (qqe.1 h)))
   rw [this];simp [hs]
 have hll:(litS ss).length=ss.length:=by simp [litS]
 have hbb:b1=b:=by rw [h1] at hb1;simpa [blk] using hb1.symm
 subst hbb
 simp only [RepL] at h4
 obtain ⟨y,zs,rfl,hy,rfl⟩:=h4
 simp only [Rep] at hy
 obtain ⟨_,rfl,_⟩:=hy
 rw [h5] at h2
 have hcell:w.cell? ⟨b1,0,none⟩=some (.map (some r)):=by rw [qdh h2];rfl
 have hlt:b1<w.heap.size:=hc.lt 1 _ b1 E trivial (by rw [h1];rfl)
 have hsz:=hown'.size_le
 have hseq:SeqGives Fence.wide 2 Tryz.prog 283 #[.pointer (some ⟨b1,0,none⟩)] encStr (fun l=>l.Perm (strKeys D0)) (Maps.size D0) w:=
  AnyZ.keys_gives (ρ:=Tryz.keys241_ren) { Tryz.keys241 with } Fence.wide _ trivial E (by omega) b1 r n D0 w hlt hcell hown'
 have hcall:=callsIn_wide.1 (AnyZ.sorted_in Tryz.sorted240 Fence.wide 5 trivial trivial trivial trivial E (by omega) (Tryz.sorts240 _) (qG Tryz.func282 (by kernel_rfl) E) 283 #[.pointer (some ⟨b1,0,none⟩)] trivial (qG Tryz.func283 (by kernel_rfl) E) _ _ (by have:maxLen=9223372036854775807:=rfl;omega) (by omega) _ hseq)
 refine hcall.mono ?_
 rintro e w' ⟨v,l,rfl,hperm,hrow,hnil,hbel⟩
 obtain ⟨hnd,hms⟩:=qnx qbA hown'
 have hnl:l.Nodup:=hperm.nodup_iff.2 hnd
 let M:List (List UInt8):=l.mergeSort leB
 have hlen:(M.map encStr).length=l.length:=by simp [M]
 have hxs:((M.map encStr).map fun x=>[D.imm x])=qc1 (M.map fun x=>⟨x.toArray⟩):=by simp [qc1,encStr]
 have hc2:=qrw (c:=c) (N:=1) (T:=[(0,AV.fn 283 [.ptr 1 0])]) (O:=[(1,.box [.map 0]),(0,mpS ss)]) (l:=2) (d:=0) (v:=v) (e:=9) (xs:=M.map encStr) hc hDD.no (Far0.of_below hbel) (by rw [hlen];exact hrow) (fun y hy=>by simp only [List.mem_map] at hy;obtain ⟨x,_,rfl⟩:=hy;rfl) E zD E (fun h=>Bool.false_ne_true ((show false=inD [(1,Ob.box [AV.map 0]),(0,mpS ss)] 2 from E).trans ((hL 2).1 h))) E E
 rw [hxs] at hc2
 refine ⟨v,_,_,rfl,⟨M.map fun x=>⟨x.toArray⟩,qoS hnl,fun s=>?_,rfl,rfl⟩,?_⟩
 ·rw [hmem s,← hms,← hperm.mem_iff,← (List.mergeSort_perm l leB).mem_iff,List.mem_map]
  constructor
  ·rintro ⟨x,hx,rfl⟩;exact hx
  ·intro hx;exact ⟨_,hx,rfl⟩
 ·exact sub_TO (c:=c) (N:=1) (zB E SubT.nil) (SubO.cons E (SubO.cons E SubO.nil)) E E (LO hL E) _ _ hc2
def qiG (d:Nat)(ts:List Tm):List ByteArray:=ts.foldl (fun s u=>qdW d u s) []
theorem qqY (d:Nat)(l:List Tm)(u:Tm):qiG d (l++[u])=qdW d u (qiG d l):=by simp [qiG]
theorem Names_ok (d:Nat)(ts:List Tm)(hd:∀ t,t∈ts→dle d t)(ht:Tm.wfs ts)(hb:ts.length*56≤140737488351232)(hn:(ts.map (qeA d)).sum≤1000000):AC Tryz.prog 176 [.dat false 4 (tmDs ts)] [] (fun r O=>(∃ L,qox L∧(∀ s,s∈L↔s∈qiG d ts)∧r=.dat true 1 (qc1 L))∧O=[]):=by
 have hlen:=qaY ts
 have hkk:=fun ss=>qc0 0 6 (Keys_ok ss)
 refine qI Tryz.func176 E Tryz.ntmps176 zL fun c hL hQ hDD=>(qd (qb (zX E (zK (qd (qb ?_))))));refine qt E E zD (qko 6 E (Go.Maps.string_keyed qbA)) E (zX E (zK (qd (qd (qb (zX E (zA E (qu E qN E) (zX E (zK (qv (qac (ts.length) (fun k=>k≤ts.length) (fun k=>⟨[(3,.map 6),(7,.dat false 4 (tmDs ts)),(8,iv (tmDs ts).length),(9,iv (k:Int))],[(6,mpS (qiG d (ts.take k)))]⟩) zO ?_ (fun k hk hp=>?_))))))))))))
 ·exact zR hL (zC E (zC E (zC E (zC E SubT.nil)))) (SubO.cons (qU E (by rfl)) SubO.nil)
 have hs1:=qiF d (ts.take k) []
 refine qd (qb (zA E (qj E E E E) (zK (qd (qo E (fun c0=>?_) (fun c0=>?_))))))
 ·simp only[↓cqA,cqB]at c0
  obtain ⟨u,hu⟩:=qM (l:=ts) (k:=k) (by omega)
  have hum:=List.mem_of_getElem? hu
  have hs2:=qfi (qeA d) hu
  have hnk:=fun ss h=>qc0 0 6 (qpr d u ss (hd u hum) (Tm.wfs_mem ht hum) h)
  refine qr (qa (qd (qv (qd (qb (zA E (qp E qN E E zO (qbP hu)) (zA E (qD E qz E E) ?_)))))));refine qt E E zD (qat 5 E qaJ E) E (qT E E E qz E E E E E E E E E (zK (qb ?_)))
  refine zA E (qF E qz E E E E) ?_;refine zX E ?_;refine qag (avs:=[_,_]) true E E E zD qhe E E (hnk (qiG d (ts.take k)) (by simp only [qiG];simp only [List.length_nil] at hs1;omega)) E (qbQ (.cons E trivial E .nil)) (by rintro r O' ⟨rfl,rfl⟩ l hl;exact .inl ((qdN (by rfl) l).trans hl)) (by rintro-r O' ⟨rfl,rfl⟩;exact ⟨rfl,rfl⟩) ?_
  rintro r O' ⟨rfl,rfl⟩
  refine qc (qR (qa (qb (zA E (qO E E E zO) (zX E (zK ?_))))));refine ⟨?_,?_,?_⟩
  ·omega
  ·omega
  exact zR hL (zC E (zC E (zC E (zC E SubT.nil)))) (SubO.cons (qU E (by rw [qas hu,qqY];rfl)) SubO.nil)
 simp only[↓cqA,cqB]at c0
 have hk2:ts.take k=ts:=List.take_of_length_le (by omega)
 rw [hk2] at hs1 ⊢
 have hs3:=qnk (AC_rn 0 6 (qsM (qiG d ts) (by simp only [qiG];simp only [List.length_nil] at hs1;omega))) (Post':=fun r O'=>∃ L,qox L∧(∀ s,s∈L↔s∈qiG d ts)∧r=.dat true 1 (qc1 L)∧O'=[(1,.box [.map 6]),(6,mpS (qiG d ts))])
  (fun r O' ⟨L,h1,h2,h3,h4⟩=>⟨L,h1,h2,by rw [← qrO (qgn 0 6) r,h3];rfl,by rw [← qjd (qgn 0 6) O',h4];rfl⟩)
 refine qV ?_;refine qq (qq (qad ?_));refine qa ?_;refine qd ?_;refine qb ?_;refine zX E ?_;refine qag (avs:=[_]) true E E E zD qdv E E (hkk _) E (qbQ (.cons E trivial E .nil)) (by rintro r O' ⟨rfl,rfl⟩;exact frB E) (by rintro-r O' ⟨rfl,rfl⟩;exact ⟨rfl,rfl⟩) ?_
 rintro r O' ⟨rfl,rfl⟩
 refine qag (avs:=[_]) true E E E zD qgE E E (hs3) E (qbQ (.cons E trivial E (.cons E trivial E .nil))) (by rintro r O' ⟨L,_,_,_,rfl⟩;exact frB E) (by rintro-r O' ⟨L,_,_,rfl,rfl⟩;exact ⟨rfl,rfl⟩) ?_
 rintro r O' ⟨L,h1,h2,rfl,rfl⟩
 refine zX E (zK (qn (zI hL (qg E qh) ?_ ?_)))
 ·rfl
 exact ⟨⟨L,h1,h2,rfl⟩,rfl⟩
theorem qqc (d:Nat)(ih:∀ (t:Tm) (n:Int),(mayS d t n).1=true→dle d t∧(qeA d t:Int)≤n-(mayS d t n).2):∀ (l:List Tm) (n:Int),(mayL (mayS d) l n).1=true→(∀ u,u∈l→dle d u)∧((l.map (qeA d)).sum:Int)≤n-(mayL (mayS d) l n).2
 | [],n,_=>by simp [mayL]
 | a::l,n,h=>by
   simp only [mayL] at h ⊢
   split at h
   ·rename_i hb
    have h1:=ih a n hb
    have h2:=qqc d ih l (mayS d a n).2 h
    rw [if_pos hb]
    refine ⟨fun u hu=>?_,?_⟩
    ·rcases List.mem_cons.1 hu with rfl|hu
     ·exact h1.1
     ·exact h2.1 u hu
    ·simp only [List.map_cons,List.sum_cons]
     have:=h1.2;have:=h2.2;push_cast at *;omega
   ·cases h
theorem qp7:∀ (d:Nat) (t:Tm) (n:Int),(mayS d t n).1=true→dle d t∧(qeA d t:Int)≤n-(mayS d t n).2
 | 0,t,n,h=>by simp [mayS] at h
 | d+1,t,n,h=>by
   have e0:∀ l:List Tm,l.length=0→l=[]:=fun l h=>List.eq_nil_of_length_eq_zero h
   simp only [mayS] at h ⊢
   split at h
   ·cases h
   rename_i hn
   rw [if_neg hn]
   split at h
   ·rename_i hk
    rw [if_pos hk]
    simp only [Bool.and_eq_true,decide_eq_true_eq] at h
    have:=e0 _ h.2
    simp [dle,qeA,this];omega
   rename_i hk1
   rw [if_neg hk1]
   split at h
   ·rename_i hk
    rw [if_pos hk]
    simp only [Bool.and_eq_true,decide_eq_true_eq] at h
    have:=e0 _ h.2
    simp [dle,qeA,this];omega
   rename_i hk2
   rw [if_neg hk2]
   split at h
   ·rename_i hk
    rw [if_pos hk]
    split at h
    ·rename_i hc
     rw [if_pos hc]
     have:=qqc d (qp7 d) t.args (n-1) h
     refine ⟨this.1,?_⟩
     simp only [qeA];push_cast;have:=this.2;omega
    ·cases h
   ·cases h
theorem qgy {t:Tm}(h:mayT t=true):dle 5 t∧qeA 5 t≤25:=by
 have h1:=qp7 5 t 24 h
 have h2:=qfe 5 t 24 (by omega)
 exact ⟨h1.1,by omega⟩
def qfJ (t:Tm):Bool:=(qdW 5 t []).isEmpty
theorem Is_ok (t:Tm)(ht:t.wf)(hm:mayT t=true):PF 121 [tmA false t] (bv (qfJ t)):=by
 obtain ⟨h1,h2⟩:=qgy hm
 have key:=Names_ok 5 [t] (fun u hu=>by simp at hu;subst hu;exact h1) ⟨(Tm.wf0_iff t).2 ht,trivial⟩ (by simp) (by simp;omega)
 rw [qeE] at key
 refine qI Tryz.func121 E Tryz.ntmps121 zL fun c hL hQ hDD=>(qd (qb (qt E E zD (q6 1 E E E) E (zX E (zK (qd ?_))))));refine qb (zA E (qF E qz E E E E) ?_)
 refine qt E E zD (qaj 4 E qN qaJ E E zD zD zD E E E) E ?_;refine qcE 4 false 1 E E E E ?_;refine qag (avs:=[_]) true E E E zD qmY E E (key) E (qbQ .nil) (by rintro r O' ⟨_,rfl⟩;exact frB E) (by rintro-r O' ⟨⟨L,_,_,rfl⟩,rfl⟩;exact ⟨rfl,rfl⟩) ?_
 rintro r O' ⟨⟨L,g1,g2,rfl⟩,rfl⟩
 refine zA E (qu E qaE E) (zA E (qj E E E E) (zX E (zK (qn (zI hL (qg E qh) ?_ ?_)))))
 ·rfl
 refine ⟨q7 ?_,rfl⟩
 rw [qbB,qeW,qfJ,Bool.eq_iff_iff,decide_eq_true_eq,List.length_eq_zero_iff,List.isEmpty_iff]
 have e:qiG 5 [t]=qdW 5 t []:=rfl
 rw [e] at g2
 constructor
 ·rintro rfl;exact List.eq_nil_iff_forall_not_mem.2 fun s hs=>by have:=(g2 s).2 hs;simp at this
 ·intro h;rw [h] at g2;exact List.eq_nil_iff_forall_not_mem.2 fun s hs=>by have:=(g2 s).1 hs;simp at this
end Go.Proofs.YtpgceiijoedppaaGreat