/- Part 40 of the proof: Oa. -/
import Derived.Ground.SlsfProg
import Derived.Test.YtpgceiijoedppaaGreatC36
import Derived.Test.YtpgceiijoedppaaGreatC37
set_option linter.unusedVariables false
set_option linter.unusedSimpArgs false
set_option maxRecDepth 8000
namespace Go.Proofs.YtpgceiijoedppaaGreat
open Go Go.Sort Go.Lib Go.Shelf
theorem qos {P:Program}{R:Ren}(L:SlLaysF0.n6 P R){c:Ctx}{N:Nat}{Q:Exit→St→Prop}{o:Oper}{ops:Array Oper}{rest:List Oper}{x s y:Operand}{tys:Array TypeId}{T:List (Nat×AV)}{O:List (Nat×Ob)}{k:Nat}(hk0:0<k)(ht:tfB P (R.t 24) true k=true){sf g:FuncId}(hsf:R.f 6=sf)(eg:qY P g)(esf:qY P sf)
  {e:TypeId} {l n q:Nat} {f:Bool} {X:Type} {toD:X→List D} {es:List X} {cf:X→X→Int}
  (hg:o.guard=none) (ho:o.op=.call { callee:=.value x,args:=#[s,y],argTypes:=tys }) (hdN:∀ d,o.dst=some d→d<N)
  (hx:ev T x=some (.fn sf [])) (hs:ev T s=some (.vw l 0 n q)) (hy:ev T y=some (.fn g [])) (hl:ok O l=some (.arr e k f ((es.map toD).map some++List.replicate (q-es.length) none))) (hn:n=es.length) (hq:es.length≤q) (hlt:es.length<4611686018427387904)
  (hcmp:∀ x∈es,∀ y∈es,ACx true P g [.agg (lift false (toD x)),.agg (lift false (toD y))] [] (fun r O=>r=.imm (.int .i64 (cf x y))∧O=[]))
  (hirr:∀ x∈es,¬ cf x x<0) (htr:∀ x∈es,∀ y∈es,∀ z∈es,cf x y<0→cf y z<0→cf x z<0) (hnt:∀ x∈es,∀ y∈es,∀ z∈es,¬ cf x y<0→¬ cf y z<0→¬ cf x z<0)
  (K:∀ es':List X,es'.Perm es→es'.Pairwise (fun x y=>¬ cf y x<0)→awps P c N ops rest Q (St.put ⟨T,(l,.arr e k f ((es'.map toD).map some++List.replicate (q-es'.length) none))::O⟩ o.dst (.tup []))):awps P c N ops (o::rest) Q ⟨T,O⟩:=by
 obtain ⟨dt,it,u1,u2,u3,u4,_⟩:=qmo ht
 have aE:∀ w,(isAgg (R.t 24)).run P w=.ok true w:=fun w=>by rw [qiL u1,u3]
 have zE:∀ w,(Go.sizeOf (R.t 24)).run P w=.ok k w:=fun w=>by simp [Go.sizeOf,typeInfo,u2,u4]
 subst hn
 refine qcF hg ?_
 rintro a w ⟨ρ,S,hc⟩
 have h1:=qaz hc hx
 have h2:=qaz hc hs
 have h3:=qaz hc hy
 obtain ⟨b,xs,hb1,hb2,hb3,hb4,hb5⟩:=hc.O l _ hl
 have hlq:((es.map toD).map some++List.replicate (q-es.length) (none:Option (List D))).length=q:=by simp;omega
 rw [hlq] at hb1 hb3 hb4
 simp only [Rep,RepL] at h1 h2 h3
 obtain ⟨_,hxe,rfl⟩:=h1
 obtain ⟨_,hye,rfl⟩:=h3
 obtain ⟨_,b',⟨m,hm⟩,hse⟩:=h2
 rw [hb1] at hm
 simp only [Value.slice.injEq,Option.some.injEq,Addr.mk.injEq] at hm
 obtain ⟨⟨rfl,_⟩,_⟩:=hm
 have hle2:es.length*k≤xs.length:=by rw [hb3];exact Nat.mul_le_mul_right _ hq
 have hj:=qfZ (w:=w) (ρ:=ρ) (S:=S) (U:=St.U ⟨T,O⟩) (f:=f) (k:=k) (es:=es.map toD) (xs:=xs) (off:=0) (by simpa using hle2) (fun i d hd=>by
  have:=hb5 i d (by rw [List.getElem?_append_left (by simpa using (List.getElem?_eq_some_iff.1 hd).1),List.getElem?_map,hd];rfl)
  rwa [Nat.zero_add])
 rw [List.drop_zero,List.length_map] at hj
 have hkd:∀ (i:Nat) (x:X),es[i]?=some x→(toD x).length=k:=fun i x hi=>(hb5 i (toD x) (by rw [List.getElem?_append_left (by simpa using (List.getElem?_eq_some_iff.1 hi).1),List.getElem?_map,List.getElem?_map,hi];rfl)).1
 have how:w.ownsRow 0 e k (.slice (some ⟨b,0,none⟩) es.length q) es.length (xs.take (es.length*k)):=⟨by simp;omega,.inr ⟨b,q,xs.toArray,rfl,Nat.zero_le _,hb2,hq,hb4,by simp [hb3],rfl⟩⟩
 have hel0:∀ (i:Nat) (x:X),es[i]?=some x→RepL w ρ S (St.U ⟨T,O⟩) (lift f (toD x)) (((xs.take (es.length*k)).drop (i*k)).take k):=fun i x hi=>qee (fun d hd=>by
  obtain ⟨x,hx,rfl⟩:=List.mem_map.1 hd
  obtain ⟨j,hj⟩:=List.getElem?_of_mem hx
  exact hkd j x hj) hj.1 i (toD x) (by simp [hi])
 have hbl:∀ g':Bool,∀ b',S g' b'→blk (.slice (some ⟨b,0,none⟩) es.length q)≠some b':=fun g' b' hb' e'=>hc.dS l _ b' _ hl trivial (by rw [hb1];exact e') hb'
 have hcore:=qnA L hk0 aE zE eg (toD:=toD) (es:=es) (cf:=cf) (Sx:=utS S false) (ρ:=ρ) hlt how hj.2 (fun i x hi=>by
  have:=RepL.ut _ _ (hel0 i x hi)
  rw [qih] at this
  exact RepL.gen (p:=fun _=>false) (q:=fun f=>!f) (fun f b hf hb=>by
   have:f=false:=by simpa using hf
   subst this;exact ⟨rfl,hb⟩) (fun _ _ _ _=>rfl) (fun _ h=>by cases h) _ _ (qbU _ _ _) (qfg _ _ (by rfl) _) this) (fun b' hb=>by
  obtain ⟨_,hb⟩:=hb
  rcases hb with hb|hb
  ·exact ⟨hc.Sb _ b' hb,hbl _ _ hb⟩
  ·exact ⟨hc.Sb _ b' hb,hbl _ _ hb⟩) hcmp hirr htr hnt
 have hex:(execOp a.eval o).run P w=.ok (.enter sf #[.slice (some ⟨b,0,none⟩) es.length q,.func (.func g) #[] #[]]) w:=by
  simp only [execOp,ho,resolve]
  simp [Sem.run_bind,hxe,hse,hye,Deferred.ofValue,invoke,esf _ _]
 unfold Oper.wp
 rw [hex]
 simp only [Oper.upon_enter]
 rw [hsf] at hcore
 refine Calls.mono hcore ?_
 rintro e' w' ⟨rfl,ps,hp,hpw,hpi,hfar,how'⟩
 simp only
 have hpl:ps.length=es.length:=by simpa using hp.length_eq
 refine ⟨_,?_,K (ps.map (·.1)) hp hpw⟩
 have hU2:∀ m,St.U ⟨T,O⟩ m→St.U ⟨T,(l,.arr e k f (((ps.map (·.1)).map toD).map some++List.replicate (q-(ps.map (·.1)).length) none))::O⟩ m:=fun m hm=>qet m hm
 have hmv:∀ vs zs,RepL w ρ S (St.U ⟨T,O⟩) vs zs→RepL w' ρ S (St.U ⟨T,(l,.arr e k f (((ps.map (·.1)).map toD).map some++List.replicate (q-(ps.map (·.1)).length) none))::O⟩) vs zs:=fun vs zs hz=>
  hz.mono (fun _ _ h=>h) (fun g b hb'=>hfar.block b (hc.Sb g b hb') (hbl g b hb')) hU2 (fun _ _=>rfl)
 have hrepAll:RepL w' ρ S (St.U ⟨T,(l,.arr e k f (((ps.map (·.1)).map toD).map some++List.replicate (q-(ps.map (·.1)).length) none))::O⟩) (lift f ((ps.map (·.1)).map toD).flatten) (ps.map (·.2)).flatten:=by
  refine hmv _ _ ?_
  have:∀ qs:List (X×List Value),(∀ p∈qs,∃ i,es[i]?=some p.1∧p.2=((xs.take (es.length*k)).drop (i*k)).take k)→RepL w ρ S (St.U ⟨T,O⟩) (lift f ((qs.map (·.1)).map toD).flatten) (qs.map (·.2)).flatten:=by
   intro qs
   induction qs with
   | nil=>intro _;simp [lift,RepL]
   | cons q qs ih=>
     intro hq
     obtain ⟨i,h5,h6⟩:=hq q (by simp)
     have h8:lift f (((q::qs).map (·.1)).map toD).flatten=lift f (toD q.1)++lift f ((qs.map (·.1)).map toD).flatten:=by simp [lift]
     rw [h8,List.map_cons,List.flatten_cons,h6]
     exact (hel0 i q.1 h5).append (ih fun p hp=>hq p (by simp [hp]))
  exact this ps hpi
 have hkd':∀ d∈(ps.map (·.1)).map toD,d.length=k:=fun d hd=>by
  obtain ⟨x,hx,rfl⟩:=List.mem_map.1 hd
  obtain ⟨j,hj⟩:=List.getElem?_of_mem (hp.mem_iff.1 hx)
  exact hkd j x hj
 have hone':∀ y∈(ps.map (·.2)).flatten,y.oneCell'=true:=fun y hy=>by
  obtain ⟨z,hz,hyz⟩:=List.mem_flatten.1 hy
  obtain ⟨p,hp1,rfl⟩:=List.mem_map.1 hz
  obtain ⟨i,_,h5⟩:=hpi p hp1
  rw [h5] at hyz
  exact hj.2 y (List.mem_of_mem_drop (List.mem_of_mem_take hyz))
 have hob:ObOk w' ρ S (St.U ⟨T,(l,.arr e k f (((ps.map (·.1)).map toD).map some++List.replicate (q-(ps.map (·.1)).length) none))::O⟩) l (.arr e k f (((ps.map (·.1)).map toD).map some++List.replicate (q-(ps.map (·.1)).length) none)):=by
  have hlq':(((ps.map (·.1)).map toD).map some++List.replicate (q-(ps.map (·.1)).length) (none:Option (List D))).length=q:=by simp;omega
  rcases how'.2 with ⟨hv,_⟩|⟨b2,cap2,cur,hv,_,hh,hcap,hmax,hsz,htk⟩
  ·cases hv
  ·simp only [Value.slice.injEq,Option.some.injEq,Addr.mk.injEq] at hv
   obtain ⟨⟨rfl,_⟩,_,rfl⟩:=hv
   refine ⟨b,cur.toList,by rw [hlq'];exact hb1,by simpa using hh,by rw [hlq'];simpa using hsz,by rw [hlq'];exact hmax,fun i d hd=>?_⟩
   have hi:((ps.map (·.1)).map toD)[i]?=some d:=by
     by_cases hi:i<ps.length
     ·rw [List.getElem?_append_left (by simpa using hi),List.getElem?_map] at hd
      obtain ⟨d',h2,h3⟩:=Option.map_eq_some_iff.1 hd
      cases h3;exact h2
     ·rw [List.getElem?_append_right (by simpa using hi)] at hd
      rw [List.getElem?_replicate] at hd
      split at hd<;>simp at hd
   have hil:i<ps.length:=by simpa using (List.getElem?_eq_some_iff.1 hi).1
   have hle:i*k+k≤ps.length*k:=by rw [← Nat.succ_mul];exact Nat.mul_le_mul_right _ hil
   have e1:(cur.toList.drop (i*k)).take k=((ps.map (·.2)).flatten.drop (i*k)).take k:=by
     rw [← htk,List.drop_take,List.take_take,Nat.min_eq_left (by omega)]
   rw [e1]
   exact ⟨hkd' d (List.mem_of_getElem? hi),qee hkd' hrepAll i d hi,fun y hy=>hone' y (List.mem_of_mem_drop (List.mem_of_mem_take hy))⟩
 have hput:=(hc.modOb hl trivial (by rw [hb1];exact hfar) hob).put (dst:=o.dst) (v:=.tup []) (x:=.tuple #[]) hdN (by simp only [Rep,RepL];exact ⟨[],rfl,rfl⟩)
 refine ⟨ρ,S,?_⟩
 cases hd:o.dst with
 | none=>rw [hd] at hput;exact hput
 | some d=>rw [hd] at hput;exact hput
theorem qjp (ts:List Mt)(hlen:ts.length≤1000000000)(cap:Nat)(hc1:ts.length≤cap)(hc2:cap≤maxLen)(f:Mt→Mt→Int)
  (hstep:∀ a∈ts,∀ b∈ts,AC Tryz.prog 211 [mtA a,mtA b] [] (fun r O=>r=bv (decide (f a b=0))∧O=[])):
  AC Tryz.prog 210 [.vw 0 0 ts.length cap,.fn 211 []] [(0,.arr 55 4 false ((ts.map mtD).map some++List.replicate (cap-ts.length) none))] (fun r O=>∃ A':List (Option (List D)),A'.length=cap∧(∀ (q:Nat) (x:Mt),(qgd f ts)[q]?=some x→A'[q]?=some (some (mtD x)))∧r=.vw 0 0 (qgd f ts).length cap∧O=[(0,.arr 55 4 false A')]):=by
 have hml:maxLen=9223372036854775807:=rfl
 have hAl:((ts.map mtD).map some++List.replicate (cap-ts.length) (none:Option (List D))).length=cap:=by simp;omega
 have hst0:∀ (q:Nat) (x:Mt),ts[q]?=some x→((ts.map mtD).map some++List.replicate (cap-ts.length) none)[q]?=some (some (mtD x)):=qhp mtD ts _
 refine qI Tryz.func210 E Tryz.ntmps210 zL fun c hL hQ hDD=>(qd (qb (zX E (zK (qd (qd ?_))))));refine qb (zX E (zA E (qcy E qw E) (zA E (qj E E E E) (zK (qo E (fun c0=>?_) (fun c0=>?_))))))
 ·simp only[↓cqA,cqB]at c0
  refine qd (qb (zX E (zX E (zK (qn (qm ?_))))))
  change retQ _ _ _ _ _ _ _
  refine retO (O':=[(0,_)]) (.inl E) (qg E qh) (SubO.cons E SubO.nil) ?_ ?_ (LO hL E) ?_
  ·rfl
  ·rfl
  have hone:=qog f (l:=ts) (by omega)
  rw [hone]
  exact ⟨_,hAl,hst0,rfl,rfl⟩
 simp only[↓cqA,cqB]at c0
 refine qr ?_;refine qa ?_;refine qd ?_;refine qd ?_;refine qb ?_;refine zX E ?_;refine qc ?_;refine qa ?_;refine qv ?_;refine qac (ts.length) (fun i=>i+1≤ts.length∧qgd f (ts.take (i+1))=ts.take (i+1)) (fun i=>⟨[(0,.vw 0 0 ts.length cap),(1,.fn 211 []),(5,iv ((i+1:Nat):Int))],[(0,.arr 55 4 false ((ts.map mtD).map some++List.replicate (cap-ts.length) none))]⟩) (⟨by omega,qog f (by rw [List.length_take];omega)⟩) ?_ (fun i hi hpi=>?_)
 ·exact qC (zC E (zC E (zC E SubT.nil))) (SubO.cons (qU E (by rfl)) SubO.nil) E E (LO hL E)
 refine qd (qd (qb (zX E (zX E (zA E (qcy E qw E) (zA E (qj E E E E) (qc ?_)))))));refine qa (qo E (fun c1=>?_) (fun c1=>?_))
 ·simp only[↓cqA,cqB]at c1
  obtain ⟨u,hu⟩:=qM (l:=ts) (k:=i+1) (by omega)
  obtain ⟨v,hv⟩:=qM (l:=ts) (k:=i) (by omega)
  have htk:=ql7 f hu hv
  refine qr (qa (qd (qv (qd (qX 10 mixed E E E E (zU E (ql (.inl E) E) (zU E (ql (.inl E) E) ?_)))))));refine zU E (ql (.inl E) E) (zU E (qax E qw E E zO zO) (zU E (qbC (i:=i+1) (j:=0) E qK E E zO (hst0 _ u hu) zD zD E) (zU E (ql (.inl E) E) (zU E (ql (.inl E) E) (zU E (qa3 E E E zO) (zU E (qax E qw E E zO zO) ?_))))))
  refine zU E (qbC (i:=i) (j:=0) E qK E E zO (hst0 _ v hv) zD zD E) (qaq ⟨rfl,rfl,?_⟩);refine qH (avs:=[_,_]) false E E E zD qhX E E (hstep u (List.mem_of_getElem? hu) v (List.mem_of_getElem? hv)) E E (zK (qo E (fun c2=>?_) (fun c2=>?_)))
  ·simp only[↓cqA,cqB]at c2
   have hd1:qgd f (ts.take (i+2))=ts.take (i+1):=by rw [htk,if_pos (by assumption),hpi.2,List.append_nil]
   have hlt1:(ts.take (i+1)).length=i+1:=by rw [List.length_take];omega
   have hoff:(if (cap:Int)=((i+1:Nat):Int) then 0 else 0+(((i+1:Nat):Int)).toNat*4)=(i+1)*4:=by rw [if_neg (by omega)];omega
   have hp00:i+2+0≤ts.length∧(i+1,(ts.map mtD).map some++List.replicate (cap-ts.length) (none:Option (List D))).1=(qgd f (ts.take (i+2+0))).length∧(i+1,(ts.map mtD).map some++List.replicate (cap-ts.length) (none:Option (List D))).1+1≤i+2+0∧(i+1,(ts.map mtD).map some++List.replicate (cap-ts.length) (none:Option (List D))).2.length=cap∧(∀ (q:Nat) (x:Mt),(qgd f (ts.take (i+2+0)))[q]?=some x→(i+1,(ts.map mtD).map some++List.replicate (cap-ts.length) (none:Option (List D))).2[q]?=some (some (mtD x)))∧∀ (q:Nat) (x:Mt),i+1+0≤q→ts[q]?=some x→(i+1,(ts.map mtD).map some++List.replicate (cap-ts.length) (none:Option (List D))).2[q]?=some (some (mtD x)):=by
    refine ⟨by omega,by rw [Nat.add_zero,hd1,hlt1],by simp,hAl,fun q x hq=>?_,fun q x _ hq=>hst0 q x hq⟩
    rw [Nat.add_zero,hd1,List.getElem?_take] at hq
    split at hq
    ·exact hst0 q x hq
    ·cases hq
   refine qd (qb (zX E (zX E (zA E (qcr E qw E E zO zO zO) (zX E (zK ?_))))));refine qd (qd (qb (zX E (zK (qv ?_)))))
   refine qci (α:=Nat×List (Option (List D))) (ts.length) (fun j a=>i+2+j≤ts.length∧a.1=(qgd f (ts.take (i+2+j))).length∧a.1+1≤i+2+j∧a.2.length=cap∧(∀ (q:Nat) (x:Mt),(qgd f (ts.take (i+2+j)))[q]?=some x→a.2[q]?=some (some (mtD x)))∧∀ (q:Nat) (x:Mt),i+1+j≤q→ts[q]?=some x→a.2[q]?=some (some (mtD x))) (fun j a=>⟨[(0,.vw 0 0 ts.length cap),(1,.fn 211 []),(5,iv (a.1:Int)),(6,.vw 0 ((i+1)*4) (ts.length-(i+1)) (cap-(i+1))),(7,iv ((j+1:Nat):Int))],[(0,.arr 55 4 false a.2)]⟩) ((i+1,(ts.map mtD).map some++List.replicate (cap-ts.length) none)) (hp00) ?_ (fun j a hj hpj=>?_)
   ·exact qC (zC E (zC E (zC E (SubT.cons (qaw E (by (rw [hoff];rfl))) (zC E SubT.nil))))) (SubO.cons (qU E (by rfl)) SubO.nil) E E (LO hL E)
   refine qd (qd (qb (zX E (zX E (zA E (qcy E qw E) (zA E (qj E E E E) (qc ?_)))))));refine qa (qo E (fun c3=>?_) (fun c3=>?_))
   ·simp only[↓cqA,cqB]at c3
    obtain ⟨x,hx⟩:=qM (l:=ts) (k:=i+2+j) (by omega)
    obtain ⟨y,hy⟩:=qM (l:=ts) (k:=i+1+j) (by omega)
    have htj:=ql7 f (l:=ts) (k:=i+1+j) (by rw [show i+1+j+1=i+2+j by omega];exact hx) hy
    rw [show i+1+j+2=i+2+(j+1) by omega,show i+1+j+1=i+2+j by omega] at htj
    refine qr (qa (qd (qv (qd (qX 10 mixed E E E E (zU E (ql (.inl E) E) (zU E (ql (.inl E) E) ?_)))))));refine zU E (ql (.inl E) E) (zU E (qax E qw E E zO zO) (zU E (qbC (i:=i+2+j) (j:=0) E qK E E zO (hpj.2.2.2.2.2 _ x zO hx) zD zD E) (zU E (ql (.inl E) E) (zU E (ql (.inl E) E) (zU E (qa3 E E E zO) (zU E (qax E qw E E zO zO) ?_))))))
    refine zU E (qbC (i:=i+1+j) (j:=0) E qK E E zO (hpj.2.2.2.2.2 _ y zO hy) zD zD E) (qaq ⟨rfl,rfl,?_⟩);refine qH (avs:=[_,_]) false E E E zD qhX E E (hstep x (List.mem_of_getElem? hx) y (List.mem_of_getElem? hy)) E E (zA E (qaB E E) (zK (qo E (fun c4=>?_) (fun c4=>?_))))
    ·simp only[↓cqA,cqB]at c4
     let a2:Nat×List (Option (List D)):=(a.1+1,a.2.set a.1 (some (mtD x)))
     have hne:¬ f x y=0:=by simpa using c4
     rw [if_neg hne] at htj
     have hstp:a2.1=(qgd f (ts.take (i+2+(j+1)))).length∧a2.1+1≤i+2+(j+1)∧a2.2.length=cap∧(∀ (q:Nat) (z:Mt),(qgd f (ts.take (i+2+(j+1))))[q]?=some z→a2.2[q]?=some (some (mtD z)))∧∀ (q:Nat) (z:Mt),i+1+(j+1)≤q→ts[q]?=some z→a2.2[q]?=some (some (mtD z)):=by
      rw [htj]
      refine ⟨by simp [a2,hpj.2.1],show a.1+1+1≤i+2+(j+1) by (have:=hpj.2.2.1;omega),by simp [a2,hpj.2.2.2.1],fun q z hq=>?_,fun q z hq hz=>?_⟩
      ·simp only [a2,List.getElem?_set]
       by_cases hqa:a.1=q
       ·subst hqa
        rw [if_pos rfl,if_pos (by omega)]
        rw [List.getElem?_append_right (by omega)] at hq
        simp [hpj.2.1] at hq
        rw [hq]
       ·rw [if_neg hqa]
        rcases Nat.lt_or_ge q a.1 with h1|h1
        ·rw [List.getElem?_append_left (by omega)] at hq
         exact hpj.2.2.2.2.1 q z hq
        ·have:=(List.getElem?_eq_some_iff.1 hq).1
         simp at this;omega
      ·simp only [a2,List.getElem?_set]
       rw [if_neg (by omega)]
       exact hpj.2.2.2.2.2 q z zO hz
     refine qd (qb (zX E (zX E (zX E (zX E (zA E (qax E qw E E zO zO) (zA E (qbC (i:=i+2+j) (j:=0) E qK E E zO (hpj.2.2.2.2.2 _ x zO hx) zD zD E) (zA E (qax E qw E E zO zO) (qca a.1 E E E qK E E (by simp) zO rfl rfl rfl rfl rfl rfl (zK (qb (zM rfl rfl rfl ?_))))))))))))
     refine zA E (qO E E E zO) (zX E (qc (qR (qa (qb (zX E (zA E (qO E E E zO) ?_)))))));refine zX E (zK ?_);refine ⟨?_,a2,?_,?_⟩
     ·omega
     ·exact ⟨by omega,hstp.1,hstp.2.1,hstp.2.2.1,hstp.2.2.2.1,hstp.2.2.2.2⟩
     exact qC (zC E (zC E (zC E (zC E (SubT.cons (qaw E (by exact qan (by push_cast;omega))) SubT.nil))))) (SubO.cons (qU E (by rfl)) SubO.nil) E E (LO hL E)
    simp only[↓cqA,cqB]at c4
    let a2:Nat×List (Option (List D)):=a
    have hne:f x y=0:=by simpa using c4
    rw [if_pos hne,List.append_nil] at htj
    have hstp:a2.1=(qgd f (ts.take (i+2+(j+1)))).length∧a2.1+1≤i+2+(j+1)∧a2.2.length=cap∧(∀ (q:Nat) (z:Mt),(qgd f (ts.take (i+2+(j+1))))[q]?=some z→a2.2[q]?=some (some (mtD z)))∧∀ (q:Nat) (z:Mt),i+1+(j+1)≤q→ts[q]?=some z→a2.2[q]?=some (some (mtD z)):=by
     rw [htj]
     exact ⟨hpj.2.1,show a.1+1≤i+2+(j+1) by (have:=hpj.2.2.1;omega),hpj.2.2.2.1,hpj.2.2.2.2.1,fun q z hq hz=>hpj.2.2.2.2.2 q z zO hz⟩
    refine qr (qR (qa (qb (zX E (zA E (qO E E E zO) (zX E (qc ?_)))))));refine qa ?_;refine ⟨?_,a2,?_,?_⟩
    ·omega
    ·exact ⟨by omega,hstp.1,hstp.2.1,hstp.2.2.1,hstp.2.2.2.1,hstp.2.2.2.2⟩
    exact qC (zC E (zC E (zC E (zC E (SubT.cons (qaw E (by exact qan (by push_cast;omega))) SubT.nil))))) (SubO.cons (qU E (by rfl)) SubO.nil) E E (LO hL E)
   simp only[↓cqA,cqB]at c3
   refine qV (qq (qq (qad ?_)));refine qa (qd (qb (zX E (zX E (zA E (qcr E qw E E zO zO zO) ?_)))))
   refine qmc a.1 E E E qw qao E E E E (fun _=>by rw [if_neg zO];simp) zO (fun es2 hl2 hk2=>?_);refine qc ?_;refine qa ?_;refine qd ?_;refine qb ?_;refine zX E ?_;refine zX E (zA E (qe6 E qw E E zO zO zO) (zX E (zK (qn (qP (qm (qm (qP (qm ?_)))))))))
   change retQ _ _ _ _ _ _ _
   refine retO (O':=[(0,_)]) (.inl E) (qg E qh) (SubO.cons E SubO.nil) ?_ ?_ (LO hL E) ?_
   ·rfl
   ·rfl
   have hall:ts.take (i+2+j)=ts:=List.take_of_length_le (by omega)
   have h1:=hpj.2.1
   have h4:=hpj.2.2.2.2.1
   rw [hall] at h1 h4
   refine ⟨es2,by rw [hl2];exact hpj.2.2.2.1,fun q x hq=>?_,?_,rfl⟩
   ·have hqa:=(List.getElem?_eq_some_iff.1 hq).1
    rw [hk2 q (by omega)]
    exact h4 q x hq
   ·rw [← h1];simp [resV]
  simp only[↓cqA,cqB]at c2
  refine qr (qR (qa (qb (zX E (zA E (qO E E E zO) (zX E (qc ?_)))))));refine qa ?_;refine ⟨?_,?_,?_⟩
  ·omega
  ·refine ⟨by omega,?_⟩
   rw [show i+1+1=i+2 from rfl,htk,if_neg (by assumption),hpi.2,← qas hu]
  exact qC (zC E (zC E (SubT.cons (qaw E (by exact qan (by push_cast;omega))) SubT.nil))) (SubO.cons (qU E (by rfl)) SubO.nil) E E (LO hL E)
 simp only[↓cqA,cqB]at c1
 refine qV (qq (qq (qad ?_)));refine qa (qd (qb (zX E (zX E (zK (qn ?_))))))
 change retQ _ _ _ _ _ _ _
 refine retO (O':=[(0,_)]) (.inl E) (qg E qh) (SubO.cons E SubO.nil) ?_ ?_ (LO hL E) ?_
 ·rfl
 ·rfl
 have h1:=hpi.2
 rw [List.take_of_length_le (by omega)] at h1
 rw [h1]
 exact ⟨_,hAl,hst0,rfl,rfl⟩
theorem qjV (g:FuncId):AC Tryz.prog 210 [.imm (.slice none 0 0),.fn g []] [] (fun r O=>r=.imm (.slice none 0 0)∧O=[]):=by
 refine qI Tryz.func210 E Tryz.ntmps210 zL fun c hL hQ hDD=>(qd (qb (zX E (zK (qd (qd ?_))))));refine qb (zX E (zA E (qcB E qw E) (zA E (qj E E E E) (zK (qo E (fun c0=>?_) (fun c0=>?_))))))
 ·simp only[↓cqA,cqB]at c0
  refine qd (qb (zX E (zX E (zK (qn (qm (zI hL (qg E qh) ?_ ?_)))))))
  ·rfl
  exact ⟨rfl,rfl⟩
 simp only[↓cqA,cqB]at c0
 simp at c0
theorem once1_ok (a b:Mt)(hd:∀ x∈a.b,dle 5 x.t)(ha:a.wf)(hb:b.wf):PF 211 [mtA a,mtA b] (bv (decide (cmpM a b=0))):=by
 refine qI Tryz.func211 E Tryz.ntmps211 zL fun c hL hQ hDD=>(qd (qb (qt E E zD (q6 2 E E E) E (qt E E zD (q6 3 E E E) E (zX E (zK ?_))))));refine qd (qb (zA E (qF E qK E E E E) (zA E (qF E qK E E E E) (qH (avs:=[_,_]) true E E E zD qfn E E (qhV a b hd ha hb) E E (zA E (qj E E E E) (zX E (zK (qn (zI hL (qg E qh) ?_ ?_)))))))))
 ·rfl
 exact ⟨rfl,rfl⟩
end Go.Proofs.YtpgceiijoedppaaGreat