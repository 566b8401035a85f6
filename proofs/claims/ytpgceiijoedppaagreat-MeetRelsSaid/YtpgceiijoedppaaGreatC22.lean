/- Part 22 of the proof: Fv, Fw, Fx. -/
import Derived.Test.YtpgceiijoedppaaGreatC21
set_option linter.unusedVariables false
set_option linter.unusedSimpArgs false
set_option maxRecDepth 8000
namespace Go.Proofs.YtpgceiijoedppaaGreat
open Go
variable {a x:List Bd}{y:Bd}
theorem qjQ (f:Bool)(d:List D)(hd:d.length=5):
  ACt Tryz.prog 290 [.imm (.slice none 0 0),iv 0,.row 32] [(32,.rowd 143 5 f [d])] (fun r O=>r=.row 200∧O=[(200,.rowd 143 5 f [d]),(32,.rowd 143 5 f [d])]):=by
 have hone:[d].length=1:=rfl
 refine qi5 Tryz.func290 E Tryz.ntmps290 zL fun c hL hDD=>(qd (qb (zX E (zK (qd (qb ?_))))));refine zX E (zX E (zA E (qpJ E qA E E zO) (zK (qd (qb (zX E (zA E (qbf E qA E E) ?_)))))))
 refine zX E (zK (qd (qd (qb (zX E (zA E (qj E E E E) ?_))))));refine zK (qo E (fun c0=>?_) (fun c0=>?_))
 ·simp only[↓cqA,cqB]at c0
  exfalso;simp at c0
 simp only[↓cqA,cqB]at c0
 refine qr (qa (qd (qb (zX E (zA E (qcB E qA E) ?_)))))
 refine zX E (zK (qd (qd (qb (zX E (zX E ?_))))));refine zA E (qj E E E E) (zK (qo E (fun c1=>?_) (fun c1=>?_)))
 ·simp only[↓cqA,cqB]at c1
  refine qd ?_;refine qb ?_;refine zX E ?_;refine zX E ?_;refine qab (qam (t:=23) (l:=23) 143 5 f E E) ?_;refine qcG 200 qbr E E zD E E E (qdJ E E) E (fun x hx=>by simp at hx;rw [hx,hd]) (qqW hL rfl) rfl (by simp) rfl ?_;refine zX E ?_;refine qc ?_;refine qa ?_;refine qn ?_;refine qm ?_
  change retQ _ _ _ _ _ _ _
  refine retO (O':=[(200,_),(32,_)]) (.inl E) (qg E qh) (SubO.cons E (SubO.cons E SubO.nil)) ?_ ?_ (oneL hL E) ?_
  ·rfl
  ·rfl
  exact ⟨rfl,rfl⟩
 simp only[↓cqA,cqB]at c1
 exact absurd trivial c1
set_option maxHeartbeats 2000000 in
theorem qne (f:Bool)(es:List (List D))(d:List D)(i cap:Nat)(hi:i≤es.length)(hcap:es.length≤cap)(hmax:cap≤maxLen)(hes:∀ x∈es,x.length=5)(hd:d.length=5)(hb:(es.length+1)*72≤140737488355328):
    ACt Tryz.prog 290 [.vw 6 0 es.length cap,iv i,.row 32] [(6,.arr 143 5 f (es.map some++List.replicate (cap-es.length) none)),(32,.rowd 143 5 f [d])]
      (fun r O=>∃ junk,(r=.vw 6 0 (es.length+1) cap∧cap=(ins es i d).length+junk.length∧O=[(6,.arr 143 5 f ((ins es i d).map some++junk)),(32,.rowd 143 5 f [d])])∨
        ∃ cap',r=.vw 200 0 (es.length+1) cap'∧cap'=(ins es i d).length+junk.length∧O=[(200,.arr 143 5 f ((ins es i d).map some++junk)),(6,.arr 143 5 f (es.map some++List.replicate (cap-es.length) none)),(32,.rowd 143 5 f [d])]):=by
  have hmx:maxLen=9223372036854775807:=rfl
  have hlen:(es.map some++List.replicate (cap-es.length) (none:Option (List D))).length=cap:=by simp;omega
  have hil:=qbw es i d hi
  have hone:[d].length=1:=rfl
  have hoff1:∀ q:Nat,i<q→(if (q:Int)=(i:Int) then 0 else 0+(i:Int).toNat*5)=i*5:=fun q h=>by rw [if_neg (by omega)];simp
  have hoff2:∀ q:Nat,i+1<q→(if (q:Int)=(i:Int)+([d].length:Int) then 0 else 0+((i:Int)+([d].length:Int)).toNat*5)=(i+1)*5:=fun q h=>by rw [if_neg (by simp;omega),Nat.zero_add];congr 1
  have hdr:∀ (j:Nat) (x:List D),(es.drop i)[j]?=some x→es[i+j]?=some x:=fun j x hx=>by rwa [List.getElem?_drop] at hx
  refine qi5 Tryz.func290 E Tryz.ntmps290 zL fun c hL hDD=>(qd (qb (zX E (zK (qd (qb ?_))))));refine zX E (zX E (zA E (qcr E qA E E zO zO zO) (zK (qd (qb (zX E (zA E (qbf E qA E E) ?_)))))))
  refine zX E (zK (qd (qd (qb (zX E (zA E (qj E E E E) ?_))))));refine zK (qo E (fun c0=>?_) (fun c0=>?_))
  · simp only[↓cqA,cqB]at c0
    exfalso;simp at c0
  simp only[↓cqA,cqB]at c0
  refine qr (qa (qd (qb (zX E (zA E (qcy E qA E) ?_)))))
  refine zX E (zK (qd (qd (qb (zX E (zX E ?_))))));refine zA E (qj E E E E) (zK (qo E (fun c1=>?_) (fun c1=>?_)))
  · simp only[↓cqA,cqB]at c1
    refine qd (qb (zX E (zX E (qdn 200 es [d] qbr E E zD E E E hlen.symm hcap (qdJ E E) (by simp) rfl (fun j x hx=>qfx hx) rfl (by simpa using hb) zD (fun hroom=>?_) (fun hgr cap' hc1 hc2=>?_)))))
    · refine zX E (zK (qn (qm ?_)))
      change retQ _ _ _ _ _ _ _
      have hie:i=es.length:=by omega
      refine retO (O':=[(6,_),(32,_)]) (.inl E) (qg E qh) (SubO.cons E (SubO.cons E SubO.nil)) ?_ ?_ (LO hL E) ?_
      · rfl
      · rfl
      simp only [List.length_singleton] at hroom
      refine ⟨List.replicate (cap-es.length-1) none,.inl ⟨rfl,by rw [hil,List.length_replicate];omega,?_⟩⟩
      congr 3
      subst hie
      have hse:=qhx (es.map some) ([d].map some) (r:=List.replicate (cap-es.length) none) (by simp;omega)
      rw [List.length_map] at hse
      rw [hse]
      simp [ins]
    refine zX E (zK (qn (qm ?_)))
    change retQ _ _ _ _ _ _ _
    have hie:i=es.length:=by omega
    refine retO (O':=[(200,_),(6,_),(32,_)]) (.inl E) (qg E qh) (SubO.cons E (SubO.cons E (SubO.cons E SubO.nil))) ?_ ?_ (fun l hl=>?_) ?_
    · rfl
    · rfl
    · have:=(hL l).1 hl
      simp only [inD,qa0] at this ⊢
      split
      · rfl
      · exact this
    simp only [List.length_singleton] at hc1
    refine ⟨List.replicate (cap'-(es++[d]).length) none,.inr ⟨cap',rfl,by rw [hil,List.length_replicate];simp;omega,?_⟩⟩
    subst hie
    simp only [ins,List.take_length,List.drop_length]
  simp only[↓cqA,cqB]at c1
  refine qr (qa (qd (qd (qb (zX E (zX E (zA E (qO E E E zO) ?_)))))));refine zX E (zA E (qlK E qA E) (zA E (qj E E E E) (zK (qo E (fun c2=>?_) (fun c2=>?_)))))
  · simp only[↓cqA,cqB]at c2
    refine qd (qb (zX E (zX E (zA E (qe6 E qA E E zO zO zO) ?_))))
    refine zX E ?_;refine zX E ?_;refine zA E (qO E E E zO) ?_;refine zX E ?_;refine zA E (qa3 E E E zO) ?_;refine qiX 200 (es.take i) qbr E E zD qfR E E E E (by simp;omega) (by simp;omega) (fun j x hx=>by
    rw [List.getElem?_take] at hx
    split at hx
    · exact qfx hx
    · cases hx) rfl (by simp;simp at c2;omega) (by simp;omega) (by decide) (fun cap' hc1 hc2=>?_)
    refine zX E (zK (qd (qb (zX E (zX E (zA E (qcr E qA E E zO zO zO) ?_))))))
    refine zX E ?_;refine qeS i [d] E E zD qA E E E (hoff1 _ (by simp at hc1;omega)) (qdJ E E) (by simp;omega) (by simp at hc1;simp;omega) ?_;refine qc ?_;refine qa ?_;refine qd ?_;refine qX 8 mixed E E E E (zU E (ql (.inl E) E) (zU E (ql (.inl E) E) (zU E (ql (.inl E) E) (zU E (qO E E E zO) (zU E (qcr E qA E E zO zO zO) (zU E (ql (.inl E) E) (zU E (ql (.inl E) E) ?_)))))))
    refine zU E (qcr E qA E E zO zO zO) ?_;refine qaq ⟨rfl,rfl,?_⟩;refine qeS (i+1) (es.drop i) E E zD qA E E E (hoff2 _ (by simp at hc1;omega)) (qpN (i:=i) E E (hoff1 _ zO) (fun j x hx=>qfx (hdr j x hx)) (by simp)) (by simp;omega) (by rw [qa9 (by simp;omega)];simp;omega) ?_;refine qc ?_;refine qa ?_;refine qd (qb (zX E (zX E (zK (qn (qm ?_))))))
    change retQ _ _ _ _ _ _ _
    refine retO (O':=[(200,_),(6,_),(32,_)]) (.inl E) (qg E qh) (SubO.cons E (SubO.cons E (SubO.cons E SubO.nil))) ?_ ?_ (fun l hl=>?_) ?_
    · rfl
    · rfl
    · have:=(hL l).1 hl
      simp only [inD,qa0] at this ⊢
      split
      · rfl
      · exact this
    have hc3:es.length+1≤cap':=by omega
    refine ⟨List.replicate (cap'-(es.length+1)) none,.inr ⟨cap',?_,by rw [hil,List.length_replicate];omega,?_⟩⟩
    · rw [show (i:Int).toNat+((es.length:Int)+([d].length:Int)-(i:Int)).toNat=es.length+1 by omega];rfl
    · have hf:=qnZ (es.map some) i cap' (some d) none (by simpa using hi) (by simpa using hc3)
      simp only [← List.map_take,← List.map_drop,List.length_map] at hf
      rw [qia,List.map_cons,List.map_nil,hf]
  simp only[↓cqA,cqB]at c2
  refine qr (qa (qd (qb (zX E (zX E (zX E (zA E (qO E E E zO) ?_)))))));refine zA E (qe6 E qA E E zO zO zO) ?_
  refine zX E (zK (qd (qd (qb (zX E (zX E ?_))))));refine zX E (zX E (zA E (qO E E E zO) ?_))
  refine zA E (qcr E qA E E zO zO zO) ?_;refine zA E (qjs Tryz.func318 (by kernel_rfl) (by kernel_rfl) (by kernel_rfl) (by kernel_rfl) E E E qA E E E E E zD (by simp;omega) (by simp)) ?_;refine zA E (qaB E E) ?_;refine qc ?_;refine qa ?_;refine qo E (fun c3=>?_) (fun c3=>?_)
  · simp only[↓cqA,cqB]at c3
    refine qd (qX 8 mixed E E E E (zU E (ql (.inl E) E) (zU E (ql (.inl E) E) (zU E (ql (.inl E) E) (zU E (qO E E E zO) (zU E (qcr E qA E E zO zO zO) (zU E (ql (.inl E) E) (zU E (ql (.inl E) E) (zU E (qcr E qA E E zO zO zO) ?_)))))))))
    refine qaq ⟨rfl,rfl,?_⟩;refine qeS (i+1) (es.drop i) E E zD qA E E E (hoff2 _ (by simp at c2;omega)) (qpN (i:=i) E E (hoff1 _ zO) (fun j x hx=>qfx (hdr j x hx)) (by simp;omega)) (by simp;omega) (by simp at c2;simp;omega) ?_;refine qc ?_;refine qa ?_;refine qd ?_;refine qb ?_;refine zX E ?_;refine zX E ?_
    refine zA E (qcr E qA E E zO zO zO) ?_;refine zX E ?_;refine qeS i [d] E E zD qA E E E (hoff1 _ (by simp at c2;omega)) (qdJ E E) (by simp;omega) (by rw [qa9 (by simp;omega)];simp;omega) ?_;refine qc ?_;refine qa ?_;refine qd ?_;refine qb (zX E (zX E (zK (qn (qm ?_)))))
    change retQ _ _ _ _ _ _ _
    refine retO (O':=[(6,_),(32,_)]) (.inl E) (qg E qh) (SubO.cons E (SubO.cons E SubO.nil)) ?_ ?_ (LO hL E) ?_
    · rfl
    · rfl
    have hc3:es.length+1≤cap:=by omega
    refine ⟨(List.replicate (cap-es.length) none).drop 1,.inl ⟨?_,by rw [hil];simp;omega,?_⟩⟩
    · rw [show ((es.length:Int)+([d].length:Int)).toNat=es.length+1 by omega];rfl
    · have hf:=ql3 (es.map some) (List.replicate (cap-es.length) none) i (some d) (by simp;omega) (by simp;omega)
      simp only [← List.map_drop] at hf
      rw [qia,List.map_cons,List.map_nil,hf]
  simp only[↓cqA,cqB]at c3
  exfalso;simp at c3
def qb3 (x:List Bd)(y:Bd):List Bd:=if hasB x y.name=true then x else ins x (posB x y.name) y
def qdY (a l:List Bd):List Bd:=l.foldl qb3 a
def qdF (x:List Bd)(y:Bd):Bool:=hasB x y.name&&!decide (cmpT 5 (qe9 x y.name) y.t=0)
def qft:List Bd→List Bd→Bool
 | _,[]=>true
 | x,y::b=>!qdF x y&&qft (qb3 x y) b
def qdT (a b:List Bd):List Bd:=if qft a b=true∧(qdY a b).length≤16 then qdY a b else []
def qgY (a b:List Bd):Int:=if qft a b=true then (if (qdY a b).length≤16 then 0 else 2) else 3
theorem qma (a l:List Bd)(u:Bd):qdY a (l++[u])=qb3 (qdY a l) u:=by simp [qdY]
theorem qfs:∀ (l a:List Bd) (k:Nat),(∀ (j:Nat) (u:Bd),j<k→l[j]?=some u→qdF (qdY a (l.take j)) u=false)→qft a l=qft (qdY a (l.take k)) (l.drop k)
 | l,a,0,_=>by simp [qdY]
 | [],a,k+1,_=>by simp [qdY,qft]
 | y::l,a,k+1,h=>by
   have h0:=h 0 y (by omega) E
   have ih:=qfs l (qb3 a y) k (fun j u hj hu=>by
    have:=h (j+1) u (by omega) (by simpa using hu)
    simpa [qdY] using this)
   simp only [List.take_zero,qdY,List.foldl_nil] at h0
   simp only [qft,h0,List.take_succ_cons,List.drop_succ_cons,Bool.not_false,Bool.true_and]
   rw [ih];rfl
theorem qqt {α:Type}{l:List α}{k:Nat}{u:α}(h:l[k]?=some u):l.drop k=u::l.drop (k+1):=by
 obtain ⟨h1,rfl⟩:=List.getElem?_eq_some_iff.1 h
 exact List.drop_eq_getElem_cons h1
theorem qpa (hr:RisB x)(hh:hasB x y.name=false):RisB (ins x (posB x y.name) y):=by
 obtain ⟨h1,h2⟩:=qiy y.name x
 have hno:∀ b∈x,b.name≠y.name:=fun b hb e=>by
  have:hasB x y.name=true:=List.any_eq_true.2 ⟨b,hb,by simpa using e⟩
  rw [hh] at this;cases this
 have hle:=qgv x y.name
 unfold RisB ins
 rw [List.pairwise_append]
 refine ⟨List.Pairwise.sublist (List.take_sublist _ _) hr,List.pairwise_cons.2 ⟨fun b hb=>?_,List.Pairwise.sublist (List.drop_sublist _ _) hr⟩,fun a ha b hb=>?_⟩
 ·obtain ⟨j,hj⟩:=List.getElem?_of_mem hb
  rw [List.getElem?_drop] at hj
  have hpos:posB x y.name<x.length:=by have:=(List.getElem?_eq_some_iff.1 hj).1;omega
  obtain ⟨c,hc⟩:=qM (l:=x) (k:=posB x y.name) hpos
  have h3:=h2 c hc
  have h4:ltS y.name c.name=true:=by
   rcases ltS_tri c.name y.name with h|h|h
   ·rw [h] at h3;cases h3
   ·exact absurd h (hno c (List.mem_of_getElem? hc))
   ·exact h
  rcases Nat.eq_zero_or_pos j with rfl|hjp
  ·rw [Nat.add_zero,hc] at hj;cases hj;exact h4
  ·exact qnW h4 (hr.lt (by omega) hc hj)
 ·obtain ⟨i,hi⟩:=List.getElem?_of_mem ha
  rw [List.getElem?_take] at hi
  split at hi
  ·rename_i hip
   have h3:=h1 i a hip hi
   rcases List.mem_cons.1 hb with rfl|hb
   ·exact h3
   ·obtain ⟨j,hj⟩:=List.getElem?_of_mem hb
    rw [List.getElem?_drop] at hj
    exact hr.lt zO hi hj
  ·cases hi
theorem qpo (hx:RisB x∧∀ b∈x,b.wf∧mayT b.t=true)(hy:y.wf∧mayT y.t=true):RisB (qb3 x y)∧(∀ b∈qb3 x y,b.wf∧mayT b.t=true)∧(qb3 x y).length≤x.length+1:=by
 unfold qb3
 split
 ·exact ⟨hx.1,hx.2,by omega⟩
 ·rename_i h
  refine ⟨qpa hx.1 (by simpa using h),fun b hb=>?_,by rw [qbw _ _ _ (qgv _ _)];omega⟩
  simp only [ins,List.mem_append,List.mem_cons] at hb
  rcases hb with hb|rfl|hb
  ·exact hx.2 b (List.mem_of_mem_take hb)
  ·exact hy
  ·exact hx.2 b (List.mem_of_mem_drop hb)
theorem qm7 (ha:RisB a∧∀ b∈a,b.wf∧mayT b.t=true):∀ l:List Bd,(∀ b∈l,b.wf∧mayT b.t=true)→(RisB (qdY a l)∧∀ b∈qdY a l,b.wf∧mayT b.t=true)∧(qdY a l).length≤a.length+l.length:=fun l=>by
 induction l generalizing a with
 | nil=>intro _;exact ⟨ha,by simp [qdY]⟩
 | cons y l ih=>
   intro h
   have h1:=qpo ha (h y (by simp))
   have h2:=ih ⟨h1.1,h1.2.1⟩ (fun b hb=>h b (by simp [hb]))
   have e:qdY a (y::l)=qdY (qb3 a y) l:=rfl
   rw [e]
   refine ⟨h2.1,?_⟩
   have:=h2.2;have:=h1.2.2
   simp only [List.length_cons];omega
theorem qsT (a b:List Bd)(ha:BOk a)(hb:BOk b)(hab:a.length+b.length≤1000):PF 292 [bdA a,bdA b] (.tup [bdA (qdT a b),iv (qgY a b)]):=by
 have hlen:=qaR b
 have hla:=qaR a
 refine qh2 (Post:=fun r O=>(qdT a b=[]∧r=.tup [.imm (.slice none 0 0),iv (qgY a b)]∨r=.tup [bdA (qdT a b),iv (qgY a b)])∧O=[]) ?_ (fun r O' h=>by
  obtain ⟨⟨h1,rfl⟩|rfl,rfl⟩:=h
  ·exact ⟨_,.tup (.cons (.nil (f:=false) (k:=5)) (.cons .refl .nil)),by rw [h1];rfl,rfl⟩
  ·exact ⟨_,.refl,rfl,rfl⟩)
 refine qI Tryz.func292 E Tryz.ntmps292 zL fun c hL hQ hDD=>(qd (qb (zX E (zX E (zK (qd ?_))))));refine qb ?_
 refine zX E ?_;refine qag (avs:=[_]) false E E E zD qej E E (qpx (bdDs a) (fun d hd=>by obtain ⟨x,_,rfl⟩:=List.mem_map.1 hd;rfl) zO) E (qbQ .nil) (by rintro r O' ⟨_,rfl⟩;exact frB E) (by rintro h;cases h) ?_
 rintro r O' ⟨rfl,rfl⟩
 refine zX E (zK (qd (qd (qb (zX E (zA E (qu E qA E) ?_))))));refine zX E (zK (qv (qac (b.length) (fun k=>k≤b.length∧∀ (j:Nat) (u:Bd),j<k→b[j]?=some u→qdF (qdY a (b.take j)) u=false) (fun k=>⟨[(6,.row 6),(13,bdA b),(14,iv (bdDs b).length),(15,iv (k:Int))],[(6,.rowd 143 5 false (bdDs (qdY a (b.take k))))]⟩) (⟨by omega,fun j u hj=>absurd hj zO⟩) ?_ (fun k hk hp=>?_))))
 ·exact Sub.trans (qZ 2 6 (noL hL _) (noL hL _)) (qC (zC E (zC E (zC E (zC E SubT.nil)))) (SubO.cons (qU E (by rfl)) SubO.nil) E E (noL' (noL hL) _))
 obtain ⟨⟨hr,hel⟩,hln⟩:=qm7 ⟨ha.ris,ha.el⟩ (b.take k) (fun u hu=>hb.el u (List.mem_of_mem_take hu))
 have hln2:(b.take k).length≤b.length:=by simp;omega
 have hlx:=qaR (qdY a (b.take k))
 generalize hX:qdY a (b.take k)=X at*
 refine qd (qb (zA E (qj E E E E) (zK (qd (qo E (fun c0=>?_) (fun c0=>?_))))))
 ·simp only[↓cqA,cqB]at c0
  obtain ⟨u,hu⟩:=qM (l:=b) (k:=k) (by omega)
  have hum:=hb.el u (List.mem_of_getElem? hu)
  have hpl:=qgv X u.name
  have hXs:qdY a (b.take (k+1))=qb3 X u:=by rw [qas hu,qma,hX]
  refine qr (qa (qd (qv (qd (qb (zA E (qp E qA E E zO (qbj hu)) (zA E (qD E qa1 E E) ?_)))))))
  refine qt E E zD (qat 8 E qa7 E) E (qT E E E qa1 E E E E E E E E E (zK (qd (qb (zX E (zA E (qe E qa5 E) ?_))))));refine zA E (qi E qar E E E E E) (qH (avs:=[_,_]) true E E E zD qhf E E (qpb X u.name hr zO) E E (zX E (zA E (qS E E E) (zA E (qS E E E) ?_))))
  refine zX E (zX E (zK (qv (qd (qb (zX E ?_))))));refine zA E (qaB E E) (zX E (zK (qo E (fun c1=>?_) (fun c1=>?_))))
  ·simp only[↓cqA,cqB]at c1
   have hbad:qdF X u=false:=by simp [qdF,c1]
   have hst:qb3 X u=ins X (posB X u.name) u:=by rw [qb3,if_neg (by simp [c1])]
   refine qb (zX E (zX E (zA E (qF E qa1 E E E E) (qt E E zD (qaj 32 E qA qa7 E E zD zD zD E E E) E (qcE 32 false 1 E E E E (qeo ⟨[(33,.row 6),(13,bdA b),(14,iv (bdDs b).length),(15,iv (k:Int))],[(6,.rowd 143 5 false (ins (bdDs X) (posB X u.name) (bdD u)))]⟩ (fun Q2 K=>?_) ?_))))))
   ·refine qab (qC (T1:=[(29,.row 6),(30,iv (posB X u.name:Int)),(32,.row 32),(13,bdA b),(14,iv (bdDs b).length),(15,iv (k:Int))]) (O1:=[(6,.rowd 143 5 false (bdDs X)),(32,.rowd 143 5 false [bdD u])]) (zB E (zB E (zB E (zB E (zB E (zB E SubT.nil)))))) (SubO.cons E (SubO.cons E SubO.nil)) E E (noL' (noL hL) _)) (qdG (l:=6) E zD (noL hL _) (fun he=>?_) (fun cap h1 h2=>?_))
    ·have hp0:posB X u.name=0:=by rw [he] at hlx;simp at hlx;omega
     rw [hp0] at K ⊢
     rw [he] at K
     refine qhG (avs:=[_,_,_]) E E E zD qbo E E (qjQ false (bdD u) E) E (passT (.cons E trivial E .nil)) (by rintro r O' ⟨_,rfl⟩;exact frB E) ?_
     rintro r O' ⟨rfl,rfl⟩
     exact qab (Sub.trans (qZ 200 6 (noL hL _) (noL hL _)) (qC (zB E (zB E (zB E (zB E SubT.nil)))) (SubO.cons E SubO.nil) E E (noL' (noL hL) _))) K
    ·refine qhG (avs:=[_,_,_]) E E E zD qbo E E (qne false _ (bdD u) (posB X u.name) cap zO h1 h2 (fun x hx=>by obtain ⟨b,_,rfl⟩:=List.mem_map.1 hx;rfl) E zO) E (passT (.cons E trivial E (.cons E trivial E .nil))) (by rintro r O' ⟨junk,⟨_,_,rfl⟩|⟨cap',_,_,rfl⟩⟩<;>exact frB E) ?_
     rintro r O' ⟨junk,⟨rfl,hj,rfl⟩|⟨cap',rfl,hj,rfl⟩⟩
     ·exact qab (Sub.trans (qbm (l:=6) (cap:=cap) (n:=(bdDs X).length+1) (ins (bdDs X) (posB X u.name) (bdD u)) E (noL hL _) ⟨junk,rfl⟩ (by rw [qbw _ _ _ (by omega)]) (by rw [hj];simp)) (qC (SubT.cons (qaw rfl (by simp [AV.rp,clV])) (zB rfl (zB rfl (zB rfl SubT.nil)))) (SubO.cons rfl SubO.nil) rfl rfl (noL' (noL hL) _))) K
     ·exact qab (Sub.trans (qbm (l:=200) (cap:=cap') (n:=(bdDs X).length+1) (ins (bdDs X) (posB X u.name) (bdD u)) E (noL hL _) ⟨junk,rfl⟩ (by rw [qbw _ _ _ (by omega)]) (by rw [hj];simp)) (Sub.trans (qC (T1:=[(33,.row 200),(13,bdA b),(14,iv (bdDs b).length),(15,iv (k:Int))]) (O1:=[(200,_)]) (SubT.cons (qaw rfl (by simp [AV.rp,clV])) (zB rfl (zB rfl (zB rfl SubT.nil)))) (SubO.cons rfl SubO.nil) rfl rfl (noL' (noL hL) _)) (Sub.trans (qZ 200 6 (noL hL _) (noL hL _)) (qC (zB rfl (zB rfl (zB rfl (zB rfl SubT.nil)))) (SubO.cons rfl SubO.nil) rfl rfl (noL' (noL hL) _))))) K
   refine zX E (qc (qR (qR (qa (qb (zA E (qO E E E zO) (zX E ?_)))))));refine zK ?_;refine ⟨?_,?_,?_⟩
   ·omega
   ·refine ⟨by omega,fun j w hj hw=>?_⟩
    by_cases hjk:j<k
    ·exact hp.2 j w hjk hw
    ·rw [show j=k by omega] at hw ⊢
     rw [hu] at hw;cases hw
     rw [hX];exact hbad
   exact zR hL (zC E (zC E (zC E (zC E SubT.nil)))) (SubO.cons (qU E (by rw [hXs,hst];try simp only [bdDs,qia])) SubO.nil)
  simp only[↓cqA,cqB]at c1
  have c1':hasB X u.name=true:=by simpa using c1
  obtain ⟨v,hv,hvn,hlk⟩:=(qf5 X u.name hr).2 (by simpa using c1)
  have hvt:qe9 X u.name=v.t:=by rw [qe9,hlk];rfl
  have hvm:=hel v (List.mem_of_getElem? hv)
  have hlt:=(List.getElem?_eq_some_iff.1 hv).1
  refine qd ?_;refine qX 7 mixed E E E E ?_;refine zU E (ql (.inl E) E) ?_;refine zU E (ql (.inl E) E) ?_;refine zU E (qcQ E qA E E E zO (by rw [hlx];omega)) ?_;refine zU E (qe E qbc E) ?_;refine zU E (qmv E qz E E (i:=posB X u.name) (j:=1) (by simp) (qbj hv) zD zD rfl) ?_
  refine zU E (qe E qbc E) (zU E (qi E qz E E E E E) (qaq ⟨rfl,rfl,?_⟩));refine qH (avs:=[_,_]) true E E E zD qeh E E (qhI 5 v.t u.t (qgy hvm.2).1 hvm.1.2 hum.1.2) E E (zA E (qj E E E E) (zX E (zK (qo E (fun c2=>?_) (fun c2=>?_)))))
  ·simp only[↓cqA,cqB]at c2
   refine qd (qb (zX E (zX E (zK (qn (qP (qP (qm (qm (qP (qm (zI hL (qg E (qg E qh)) ?_ ?_))))))))))))
   ·rfl
   have hbk:qft a b=false:=by
    rw [qfs b a k hp.2,hX,qqt hu,qft]
    have:qdF X u=true:=by simp [qdF,hvt,c2];simpa using c1
    rw [this];rfl
   exact ⟨.inl ⟨by rw [qdT,if_neg (by simp [hbk])],by rw [qgY,if_neg (by simp [hbk])];rfl⟩,rfl⟩
  simp only[↓cqA,cqB]at c2
  have hbad:qdF X u=false:=by simp [qdF,hvt,c2]
  have hst:qb3 X u=X:=by rw [qb3,if_pos (by simpa using c1)]
  refine qr (qR (qR (qa (qb (zA E (qO E E E zO) (zX E (qc ?_)))))));refine qa ?_;refine ⟨?_,?_,?_⟩
  ·omega
  ·refine ⟨by omega,fun j w hj hw=>?_⟩
   by_cases hjk:j<k
   ·exact hp.2 j w hjk hw
   ·rw [show j=k by omega] at hw ⊢
    rw [hu] at hw;cases hw
    rw [hX];exact hbad
  exact zR hL (zC E (zC E (zC E (zC E SubT.nil)))) (SubO.cons (qU E (by rw [hXs,hst];try simp only [bdDs,qia])) SubO.nil)
 simp only[↓cqA,cqB]at c0
 have hk2:b.take k=b:=List.take_of_length_le (by omega)
 rw [hk2] at hX
 have hgo:qft a b=true:=by rw [qfs b a k hp.2,List.drop_eq_nil_of_le (by omega)];rfl
 refine qV (qq (qq (qad ?_)));refine qa (qd (qd (qb (zX E (zA E (qbf E qA E E) (zA E (qj E E E E) (qc ?_)))))));refine qa (qo E (fun c3=>?_) (fun c3=>?_))
 ·simp only[↓cqA,cqB]at c3
  refine qd (qb (zX E (zX E (zK (qn (qm (zI hL (qg E (qg E qh)) ?_ ?_)))))))
  ·rfl
  exact ⟨.inl ⟨by rw [qdT,if_neg (by rw [hX];omega)],by rw [qgY,if_pos hgo,if_neg (by rw [hX];omega)];rfl⟩,rfl⟩
 simp only[↓cqA,cqB]at c3
 refine qr (qa (qd (qb (zX E (zX E (zX E (qab (qaG (l:=6) E zD (noL hL _) E E) ?_)))))));refine zK (qn (zI hL (qg E (qg E qh)) ?_ ?_))
 ·rfl
 exact ⟨.inr (by rw [qdT,qgY,if_pos ⟨hgo,by rw [hX];omega⟩,if_pos hgo,if_pos (by rw [hX];omega),hX];rfl),rfl⟩
theorem bothL_ok {b:List Bd}(ha:BOk a)(hb:BOk b):BOk (qdT a b):=by
 unfold qdT
 split
 ·rename_i h
  have:=qm7 ⟨ha.ris,ha.el⟩ b hb.el
  exact ⟨this.1.1,by omega,this.1.2⟩
 ·exact ⟨List.Pairwise.nil,by simp,fun b hb=>by simp at hb⟩
def occB (t:Tm)(s:ByteArray):Bool:=(qiG 5 [t]).any (fun n=>decide (n=s))
def qg3 (l:List Bd)(s:ByteArray)(t:Tm):List Bd:=if occB t s=true then [] else qdM l s t
def qgp (l:List Bd)(s:ByteArray)(t:Tm):Int:=if occB t s=true then 3 else qfT l s t
end Go.Proofs.YtpgceiijoedppaaGreat