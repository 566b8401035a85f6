/- Part 9 of the proof: SymZe. -/
import Derived.Test.YtpgceiijoedppaaGreatC8
set_option linter.unusedVariables false
set_option linter.unusedSimpArgs false
namespace Go.Proofs.YtpgceiijoedppaaGreat
open Go Go.Sort Go.Lib Go.Shelf
variable {P:Program}{R:Ren}{cur:Array Value}{g:FuncId}{k:Nat}{α:Type}
section
variable {α:Type}[Inhabited α](enc:α→List Value)(k:Nat)(w:World)(blk off m:Nat)(dk:Array α)(os:Array Obj)
theorem qks {b:Nat}(hb:b<w.heap.size)(hne:b≠blk):(sortWorldK enc k w blk off m dk os).heap[b]?=w.heap[b]?:=by
 simp only [sortWorldK,grow,putRowK,putRow,mapBlock,Go.Sort.ahead]
 rw [Array.getElem?_append_left (by simpa using hb),Array.getElem?_modify,if_neg (fun e=>hne e.symm)]
theorem qrK {ty:TypeId}{fr:Nat×Nat}(h:w.heap[blk]?=some (.cells cur ty fr)):(sortWorldK enc k w blk off m dk os).heap[blk]?=some (.cells (putCells id off (flatK enc k dk) cur) ty fr):=by
 have hb:blk<w.heap.size:=(Array.getElem?_eq_some_iff.1 h).1
 simp only [sortWorldK,grow,putRowK,putRow,mapBlock,Go.Sort.ahead]
 rw [Array.getElem?_append_left (by simpa using hb),Array.getElem?_modify,if_pos E,h]
 rfl
theorem qnB:Far (fun b=>b=blk) w (sortWorldK enc k w blk off m dk os):=
 ⟨rfl,rfl,rfl,by simp [sortWorldK,grow,putRowK,putRow,mapBlock,Go.Sort.ahead],fun b hb hne=>qks enc k w blk off m dk os hb hne,by simp [sortWorldK,grow,putRowK,putRow,mapBlock,Go.Sort.ahead]⟩
end
theorem qqn {β:Type}{k:Nat}(hk:0<k):∀ {L:List (List β)},(∀ x∈L,x.length=k)→∀ t:Nat,L.flatten[t]?=(L[t / k]?).bind (·[t % k]?)
 | [],_,t=>by simp
 | x::L,h,t=>by
   have hx:x.length=k:=h x (by simp)
   rw [List.flatten_cons]
   by_cases ht:t<k
   ·rw [List.getElem?_append_left (by omega),Nat.div_eq_of_lt ht,Nat.mod_eq_of_lt ht];rfl
   ·obtain ⟨t',rfl⟩:∃ t',t=t'+k:=⟨t-k,by omega⟩
    rw [List.getElem?_append_right (by omega),hx,Nat.add_sub_cancel,qqn hk (fun y hy=>h y (by simp [hy])) t',Nat.add_div_right _ hk,Nat.add_mod_right];rfl
theorem qq6 [Inhabited α]{enc:α→List Value}(h0:0<k)(hk:∀ x,(enc x).length=k)(d:Array α):flatK enc k d=(d.toList.map enc).flatten.toArray:=by
 have hlen:∀ (L:List α),(L.map enc).flatten.length=L.length*k:=by
  intro L
  induction L with
  | nil=>simp
  | cons a L ih=>rw [List.map_cons,List.flatten_cons,List.length_append,ih,hk,List.length_cons,Nat.add_mul,Nat.one_mul,Nat.add_comm]
 refine ext_get! (by simp only [size_flatK,List.size_toArray];rw [hlen];simp) fun t ht=>?_
 have ht':t<d.size*k:=by simpa using ht
 have hd:t / k<d.size:=Nat.div_lt_of_lt_mul (by rw [Nat.mul_comm];exact ht')
 have hm:t % k<k:=Nat.mod_lt _ h0
 rw [get_flatK _ _ _ t ht']
 have hg:=qqn h0 (L:=d.toList.map enc) (by intro x hx;obtain ⟨y,_,rfl⟩:=List.mem_map.1 hx;exact hk y) t
 have e1:(d.toList.map enc)[t / k]?=some (enc d[t / k]):=by simp [hd]
 rw [e1] at hg
 have e2:(enc d[t / k])[t % k]?=some ((enc d[t / k])[t % k]'(by rw [hk];exact hm)):=List.getElem?_eq_getElem _
 simp only [Option.bind_some] at hg
 rw [e2] at hg
 rw [getElem!_pos d _ hd,getElem!_pos (enc d[t / k]) _ (by rw [hk];exact hm)]
 have hlt:t<(d.toList.map enc).flatten.length:=(List.getElem?_eq_some_iff.1 hg).1
 have e3:=(List.getElem?_eq_some_iff.1 hg).2
 rw [getElem!_pos _ t (by simpa using hlt)]
 simpa using e3.symm
theorem put_take {F:Array Value}(h:F.size≤cur.size):(putCells id 0 F cur).size=cur.size∧(putCells id 0 F cur).toList.take F.size=F.toList:=by
 refine ⟨by simp [putCells],?_⟩
 apply List.ext_getElem?
 intro t
 rw [List.getElem?_take]
 by_cases ht:t<F.size
 ·have hc:t<cur.size:=by omega
  rw [if_pos ht]
  simp [putCells,ht,hc]
 ·rw [if_neg ht,List.getElem?_eq_none (by simpa using ht)]
theorem qk1 {β:Type}(A:Array β){n:Nat}(h:A.size=n):A.extract 0 n=A:=by subst h;simp
theorem qnA (L:SlLaysF0.n6 P R)(hk0:0<k)(aE:∀ w,(isAgg (R.t 24)).run P w=.ok true w)(zE:∀ w,(Go.sizeOf (R.t 24)).run P w=.ok k w)(eg:∀ args w,(callFunc g args).run P w=.ok (.enter g args) w)
  {e:TypeId} {X:Type} {toD:X→List D} {es:List X} {cf:X→X→Int} {w:World} {v:Value} {xs:List Value} {Sx:Nat→Prop} {ρ:Nat→Value}
  (hlt:es.length<4611686018427387904) (how:w.ownsRow 0 e k v es.length xs) (hone:∀ y∈xs,y.oneCell'=true)
  (hel:∀ (i:Nat) (x:X),es[i]?=some x→RepL w ρ (fun f b=>f=false∧Sx b) (fun _=>False) (lift false (toD x)) ((xs.drop (i*k)).take k))
  (hSx:∀ b,Sx b→b<w.heap.size∧blk v≠some b)
  (hcmp:∀ x∈es,∀ y∈es,ACx true P g [.agg (lift false (toD x)),.agg (lift false (toD y))] [] (fun r O=>r=.imm (.int .i64 (cf x y))∧O=[]))
  (hirr:∀ x∈es,¬ cf x x<0) (htr:∀ x∈es,∀ y∈es,∀ z∈es,cf x y<0→cf y z<0→cf x z<0) (hnt:∀ x∈es,∀ y∈es,∀ z∈es,¬ cf x y<0→¬ cf y z<0→¬ cf x z<0):
  Calls P (R.f 6) #[v,.func (.func g) #[] #[]] w fun e' w'=>e'=.returned (.tuple #[])∧∃ ps:List (X×List Value),(ps.map (·.1)).Perm es∧(ps.map (·.1)).Pairwise (fun x y=>¬ cf y x<0)∧(∀ p∈ps,∃ i,es[i]?=some p.1∧p.2=(xs.drop (i*k)).take k)∧Far (fun b=>blk v=some b) w w'∧w'.ownsRow 0 e k v ps.length (ps.map (·.2)).flatten:=by
 rcases Nat.eq_zero_or_pos es.length with hz|hpos
 ·have hnil:es=[]:=List.eq_nil_of_length_eq_zero hz
  obtain ⟨A,cc,hv⟩:=qf2 how
  rw [hz] at hv
  subst hv
  have hcall:=AnyF.slices_SortFunc_none L A cc (.func (.func g) #[] #[]) w
  refine hcall.mono ?_
  rintro e' w' ⟨rfl,rfl⟩
  subst hnil
  refine ⟨rfl,[],.refl _,List.Pairwise.nil,by simp,Far.refl _ _,?_⟩
  have hx:xs=[]:=List.eq_nil_of_length_eq_zero (by have:=how.1;simpa using this)
  rw [hx] at how
  exact how
 ·rcases how.2 with ⟨_,hn⟩|⟨b,cap,cur,hv,_,hh,hcap,hmax,hcs,htk⟩
  ·omega
  ·subst hv
   have hlen:xs.length=es.length*k:=how.1
   haveI:Inhabited (Fin es.length):=⟨⟨0,hpos⟩⟩
   let enc:Fin es.length→List Value:=fun i=>(xs.drop (i.1*k)).take k
   have hik:∀ i:Fin es.length,i.1*k+k≤xs.length:=fun i=>by
    have:=Nat.mul_le_mul_right k (show i.1+1≤es.length from i.2)
    rw [Nat.add_mul,Nat.one_mul] at this
    omega
   have hk:∀ i,(enc i).length=k:=fun i=>by
    have:=hik i
    simp only [enc,List.length_take,List.length_drop];omega
   have h1:∀ i,∀ v∈enc i,v.oneCell'=true:=fun i v hv'=>hone v (List.mem_of_mem_drop (List.mem_of_mem_take hv'))
   have hel2:∀ i:Fin es.length,RepL w ρ (fun f b=>f=false∧Sx b) (fun _=>False) (lift false (toD es[i.1])) (enc i):=fun i=>hel i.1 es[i.1] (by simp)
   let d:Array (Fin es.length):=Array.ofFn id
   have hds:d.size=es.length:=by simp [d]
   have hbs:b<w.heap.size:=(Array.getElem?_eq_some_iff.1 hh).1
   have hne:∀ b',Sx b'→b'≠b:=fun b' hb' e'=>(hSx b' hb').2 (by rw [e'];rfl)
   have hxs:∀ t,t<es.length*k→cur[t]?=some xs[t]! := fun t ht=>by
    have:xs[t]?=some xs[t]! := by rw [getElem!_pos xs t (by omega)];exact List.getElem?_eq_getElem _
    rw [← this,← htk,List.getElem?_take,if_pos ht];simp
   have hH:HoldsK enc k w b 0 d:=by
    intro t ht
    rw [size_flatK,hds] at ht
    have hq:t / k<es.length:=Nat.div_lt_of_lt_mul (by rw [Nat.mul_comm];exact ht)
    have hm:t % k<k:=Nat.mod_lt _ hk0
    rw [get_flatK _ _ _ t (by rw [hds];exact ht)]
    have ed:d[t / k]! = ⟨t / k,hq⟩:=by rw [getElem!_pos d _ (by rw [hds];exact hq)];simp [d]
    have ee:(enc d[t / k]!)[t % k]! = xs[t]! := by
     rw [ed,getElem!_pos _ _ (by rw [hk];exact hm),getElem!_pos xs t (by omega)]
     simp only [enc,List.getElem_take,List.getElem_drop]
     congr 1
     exact Nat.div_add_mod' t k
    rw [ee]
    refine ⟨?_,?_⟩
    ·simp only [World.cell?,hh]
     simpa using hxs t ht
    ·simp [World.frozen?,hh]
   have hO:SWO (ltOf fun i j:Fin es.length=>cf es[i.1] es[j.1]):=
    ⟨fun i=>by simpa [ltOf] using hirr _ (List.getElem_mem i.2),fun i j q h2 h3=>by
     simp only [ltOf,decide_eq_true_eq] at h2 h3 ⊢
     exact htr _ (List.getElem_mem i.2) _ (List.getElem_mem j.2) _ (List.getElem_mem q.2) h2 h3,fun i j q h2 h3=>by
     simp only [ltOf,decide_eq_false_iff_not] at h2 h3 ⊢
     exact hnt _ (List.getElem_mem i.2) _ (List.getElem_mem j.2) _ (List.getElem_mem q.2) h2 h3⟩
   have hcl:CmpLays P g #[] enc k (fun i j:Fin es.length=>cf es[i.1] es[j.1]) b 0 d.size w:=by
    intro m os dk hdk i j
    have hmv:∀ i:Fin es.length,RepL (sortWorldK enc k w b 0 m dk os) ρ (fun f b=>f=false∧Sx b) (fun _=>False) (lift false (toD es[i.1])) (enc i):=fun i=>
     RepL.gen (p:=fun _=>false) (q:=fun f=>true) (fun f b' _ hb=>hb) (fun f b' _ hb=>qks enc k w b 0 m dk os (hSx _ hb.2).1 (hne _ hb.2)) (fun _ h=>by cases h) _ _ (qbU _ _ _) (qc9 _) (hel2 i)
    have:=pf_call (S:=Sx) (U:=fun _=>False) (w:=sortWorldK enc k w b 0 m dk os) (xs:=[.agg (enc i).toArray,.agg (enc j).toArray]) (ρ:=ρ) (hcmp _ (List.getElem_mem i.2) _ (List.getElem_mem j.2)) (by
     simp only [RepL,Rep]
     exact ⟨_,_,rfl,⟨enc i,rfl,h1 i,hmv i⟩,_,_,rfl,⟨enc j,rfl,h1 j,hmv j⟩,rfl⟩) (by simp [AV.allLs,AV.allL,qbU]) (fun b' hb'=>Nat.lt_of_lt_of_le (hSx b' hb').1 (qnB enc k w b 0 m dk os).size)
    simpa using this
   have hcall:=AnyQ.slices_SortFunc L k aE zE enc hk h1 (fun i j:Fin es.length=>cf es[i.1] es[j.1]) hO g #[] b 0 cap d w eg hcl hH hbs (by rw [hds];exact hlt)
   rw [hds] at hcall
   refine hcall.mono ?_
   rintro e' w' ⟨rfl,d',n,os,hperm,hsort,rfl⟩
   have hd's:d'.size=es.length:=by rw [hperm.1,hds]
   let ps:List (X×List Value):=d'.toList.map (fun i=>(es[i.1],enc i))
   have hps1:ps.map (·.1)=d'.toList.map (fun i=>es[i.1]):=by simp [ps,Function.comp_def]
   have hps2:ps.map (·.2)=d'.toList.map enc:=by simp [ps,Function.comp_def]
   have hpl:ps.length=es.length:=by simp [ps,hd's]
   have hp:(ps.map (·.1)).Perm es:=by
    rw [hps1]
    have h2:=hperm.2.2
    rw [qk1 d' hd's,qk1 d hds] at h2
    have h3:=h2.map (fun i:Fin es.length=>es[i.1])
    have h4:d.toList.map (fun i:Fin es.length=>es[i.1])=es:=by
     apply List.ext_getElem
     ·simp [d]
     ·intro t h5 h6;simp [d]
    rw [h4] at h3
    exact h3
   have hpw:(ps.map (·.1)).Pairwise (fun x y=>¬ cf y x<0):=by
    rw [hps1,List.pairwise_iff_getElem]
    intro i j hi hj hij
    have hi':i<d'.size:=by simpa using hi
    have hj':j<d'.size:=by simpa using hj
    have h2:=hsort i j (Nat.zero_le _) hij (by omega)
    rw [getElem!_pos d' i hi',getElem!_pos d' j hj'] at h2
    simpa [ltOf] using h2
   have hflat:flatK enc k d'=(d'.toList.map enc).flatten.toArray:=qq6 hk0 hk d'
   have hFs:(flatK enc k d').size=es.length*k:=by rw [size_flatK,hd's]
   have hcsz:(flatK enc k d').size≤cur.size:=by rw [hFs,hcs];exact Nat.mul_le_mul_right _ hcap
   have hput:=put_take hcsz
   refine ⟨rfl,ps,hp,hpw,?_,?_,?_⟩
   ·intro p hp
    obtain ⟨i,_,rfl⟩:=List.mem_map.1 hp
    exact ⟨i.1,by simp,rfl⟩
   ·have:=qnB enc k w b 0 n d' os
    exact ⟨this.os,this.tape,this.output,this.size,fun b' hb' hne'=>this.block b' hb' (fun e'=>hne' (by rw [e'];rfl)),this.dr⟩
   ·rw [hps2,hpl]
    have hsz2:(d'.toList.map enc).flatten.length=es.length*k:=by
     have:=congrArg Array.size hflat
     rw [hFs] at this
     simpa using this.symm
    refine ⟨hsz2,.inr ⟨b,cap,_,rfl,Nat.zero_le _,qrK enc k w b 0 n d' os hh,hcap,hmax,by rw [hput.1];exact hcs,?_⟩⟩
    rw [← hFs,hput.2,hflat]
theorem qsC (L:SlLaysF0.n6 P R){c:Ctx}{N:Nat}{Q:Exit→St→Prop}{o:Oper}{ops:Array Oper}{rest:List Oper}{x s y:Operand}{tys:Array TypeId}{T:List (Nat×AV)}{O:List (Nat×Ob)}(hk0:0<k)(ht:tfB P (R.t 24) true k=true){sf:FuncId}(hsf:R.f 6=sf)(eg:qY P g)(esf:qY P sf)
  {e:TypeId} {l:Nat} {f:Bool} {X:Type} {toD:X→List D} {es:List X} {cf:X→X→Int}
  (hg:o.guard=none) (ho:o.op=.call { callee:=.value x,args:=#[s,y],argTypes:=tys }) (hdN:∀ d,o.dst=some d→d<N)
  (hx:ev T x=some (.fn sf [])) (hs:ev T s=some (.row l)) (hy:ev T y=some (.fn g [])) (hl:ok O l=some (.rowd e k f (es.map toD))) (hlt:es.length<4611686018427387904)
  (hcmp:∀ x∈es,∀ y∈es,ACx true P g [.agg (lift false (toD x)),.agg (lift false (toD y))] [] (fun r O=>r=.imm (.int .i64 (cf x y))∧O=[]))
  (hirr:∀ x∈es,¬ cf x x<0) (htr:∀ x∈es,∀ y∈es,∀ z∈es,cf x y<0→cf y z<0→cf x z<0) (hnt:∀ x∈es,∀ y∈es,∀ z∈es,¬ cf x y<0→¬ cf y z<0→¬ cf x z<0)
  (K:∀ es':List X,es'.Perm es→es'.Pairwise (fun x y=>¬ cf y x<0)→awps P c N ops rest Q (St.put ⟨T,(l,.rowd e k f (es'.map toD))::O⟩ o.dst (.tup []))):awps P c N ops (o::rest) Q ⟨T,O⟩:=by
 obtain ⟨dt,it,u1,u2,u3,u4,_⟩:=qmo ht
 have aE:∀ w,(isAgg (R.t 24)).run P w=.ok true w:=fun w=>by rw [qiL u1,u3]
 have zE:∀ w,(Go.sizeOf (R.t 24)).run P w=.ok k w:=fun w=>by simp [Go.sizeOf,typeInfo,u2,u4]
 refine qcF hg ?_
 rintro a w ⟨ρ,S,hc⟩
 have h1:=qaz hc hx
 have h2:=qaz hc hs
 have h3:=qaz hc hy
 simp only [Rep,RepL] at h1 h2 h3
 obtain ⟨_,hxe,rfl⟩:=h1
 obtain ⟨_,hse,_⟩:=h2
 obtain ⟨_,hye,rfl⟩:=h3
 obtain ⟨hes,xs,how,hone,hrep⟩:=hc.O l _ hl
 rw [List.length_map] at how
 have hel0:∀ (i:Nat) (x:X),es[i]?=some x→RepL w ρ S (St.U ⟨T,O⟩) (lift f (toD x)) ((xs.drop (i*k)).take k):=fun i x hi=>qee hes hrep i (toD x) (by simp [hi])
 have hcore:=qnA L hk0 aE zE eg (toD:=toD) (es:=es) (cf:=cf) (Sx:=utS S false) (ρ:=ρ) hlt how hone (fun i x hi=>by
  have:=RepL.ut _ _ (hel0 i x hi)
  rw [qih] at this
  exact RepL.gen (p:=fun _=>false) (q:=fun f=>!f) (fun f b hf hb=>by
   have:f=false:=by simpa using hf
   subst this;exact ⟨rfl,hb⟩) (fun _ _ _ _=>rfl) (fun _ h=>by cases h) _ _ (qbU _ _ _) (qfg _ _ (by rfl) _) this) (fun b hb=>by
  obtain ⟨_,hb⟩:=hb
  rcases hb with hb|hb
  ·exact ⟨hc.Sb _ b hb,fun e'=>hc.dS l _ b _ hl trivial e' hb⟩
  ·exact ⟨hc.Sb _ b hb,fun e'=>hc.dS l _ b _ hl trivial e' hb⟩) hcmp hirr htr hnt
 have hex:(execOp a.eval o).run P w=.ok (.enter sf #[ρ l,.func (.func g) #[] #[]]) w:=by
  simp only [execOp,ho,resolve]
  simp [Sem.run_bind,hxe,hse,hye,Deferred.ofValue,invoke,esf _ _]
 unfold Oper.wp
 rw [hex]
 simp only [Oper.upon_enter]
 rw [hsf] at hcore
 refine Calls.mono hcore ?_
 rintro e' w' ⟨rfl,ps,hp,hpw,hpi,hfar,how'⟩
 simp only
 refine ⟨_,?_,K (ps.map (·.1)) hp hpw⟩
 have hU2:∀ m,St.U ⟨T,O⟩ m→St.U ⟨T,(l,.rowd e k f ((ps.map (·.1)).map toD))::O⟩ m:=fun m hm=>qet m hm
 have hmv:∀ vs zs,RepL w ρ S (St.U ⟨T,O⟩) vs zs→RepL w' ρ S (St.U ⟨T,(l,.rowd e k f ((ps.map (·.1)).map toD))::O⟩) vs zs:=fun vs zs hz=>
  hz.mono (fun _ _ h=>h) (fun g b hb'=>hfar.block b (hc.Sb g b hb') (fun e'=>hc.dS l _ b g hl trivial e' hb')) hU2 (fun _ _=>rfl)
 have hob:ObOk w' ρ S (St.U ⟨T,(l,.rowd e k f ((ps.map (·.1)).map toD))::O⟩) l (.rowd e k f ((ps.map (·.1)).map toD)):=by
  refine ⟨fun d hd=>?_,(ps.map (·.2)).flatten,by simpa using how',fun y hy=>?_,hmv _ _ ?_⟩
  ·obtain ⟨x,hx,rfl⟩:=List.mem_map.1 hd
   exact hes _ (List.mem_map.2 ⟨x,hp.mem_iff.1 hx,rfl⟩)
  ·obtain ⟨z,hz,hyz⟩:=List.mem_flatten.1 hy
   obtain ⟨p,hp1,rfl⟩:=List.mem_map.1 hz
   obtain ⟨i,_,h5⟩:=hpi p hp1
   rw [h5] at hyz
   exact hone y (List.mem_of_mem_drop (List.mem_of_mem_take hyz))
  ·have:∀ qs:List (X×List Value),(∀ p∈qs,∃ i,es[i]?=some p.1∧p.2=(xs.drop (i*k)).take k)→RepL w ρ S (St.U ⟨T,O⟩) (lift f ((qs.map (·.1)).map toD).flatten) (qs.map (·.2)).flatten:=by
    intro qs
    induction qs with
    | nil=>intro _;simp [lift,RepL]
    | cons q qs ih=>
      intro hq
      obtain ⟨i,h5,h6⟩:=hq q (by simp)
      have h8:lift f (((q::qs).map (·.1)).map toD).flatten=lift f (toD q.1)++lift f ((qs.map (·.1)).map toD).flatten:=by simp [lift]
      rw [h8,List.map_cons,List.flatten_cons,h6]
      exact (hel0 i q.1 h5).append (ih fun p hp=>hq p (by simp [hp]))
   exact this ps hpi
 have hput:=(hc.modOb hl trivial hfar hob).put (dst:=o.dst) (v:=.tup []) (x:=.tuple #[]) hdN (by simp only [Rep,RepL];exact ⟨[],rfl,rfl⟩)
 refine ⟨ρ,S,?_⟩
 cases hd:o.dst with
 | none=>rw [hd] at hput;exact hput
 | some d=>rw [hd] at hput;exact hput
end Go.Proofs.YtpgceiijoedppaaGreat
namespace Go.Proofs.YtpgceiijoedppaaGreat
open Go
variable {N d t:Nat}{O:List (Nat×Ob)}{P:Program}{Q:Exit→St→Prop}{T T1:List (Nat×AV)}{b:Bool}{c:Ctx}{need:List Nat}{o:Oper}{ops:Array Oper}{rest:List Oper}{v:AV}{x:Operand}{σ:St}
theorem zA (hd:o.dst=some d)(h:Stp P c N o ⟨T,O⟩ need v [])(K:awps P c N ops rest Q ⟨(d,v)::T,O⟩)(hg:o.guard=none:=by rfl)(hN:d<N:=by decide):awps P c N ops (o::rest) Q ⟨T,O⟩:=qk9 hg hd hN h K
theorem zM (hd:o.dst=some d)(ho:o.op=.move x)(hx:ev T x=some v)(K:awps P c N ops rest Q ⟨(d,v)::T,O⟩)(hg:o.guard=none:=by rfl)(hN:d<N:=by decide):awps P c N ops (o::rest) Q ⟨T,O⟩:=qk9 hg hd hN (ql (.inl ho) hx) K
theorem zN (hd:o.dst=some d)(ho:o.op=.assign x)(hx:ev T x=some v)(K:awps P c N ops rest Q ⟨(d,v)::T,O⟩)(hg:o.guard=none:=by rfl)(hN:d<N:=by decide):awps P c N ops (o::rest) Q ⟨T,O⟩:=qk9 hg hd hN (ql (.inr ho) hx) K
theorem zS {j:Nat}{b':Bool}(hg:o.guard=some (j,b))(hj:(ops[j]?).bind (·.dst)=some t)(ht:lk T t=some (.imm (.bool b')))(hd:o.dst=some d)(K:awps P c N ops rest Q ⟨(d,.imm undef)::T,O⟩)(hb:(b'==b)=false:=by rfl)(htN:t<N:=by decide)(hN:d<N:=by decide):awps P c N ops (o::rest) Q ⟨T,O⟩:=awps_gs hg hj ht hb htN hd hN K
theorem zG {j:Nat}(hg:o.guard=some (j,b))(hj:(ops[j]?).bind (·.dst)=some t)(ht:lk T t=some (.imm (.bool b)))(hd:o.dst=some d)(h:Stp P c N o ⟨T,O⟩ need v [])(K:awps P c N ops rest Q ⟨(d,v)::T,O⟩)(htN:t<N:=by decide)(hN:d<N:=by decide):awps P c N ops (o::rest) Q ⟨T,O⟩:=awps_g0 hg hj ht htN hd hN h K
theorem zW {v':AV}(h:lk T t=some v)(e:v=v':=by first|rfl|simp):lk T t=some v':=qaw h e
theorem zC {v':AV}(h:lk T t=some v)(k:SubT T1 T)(e:v=v':=by first|rfl|simp):SubT ((t,v')::T1) T:=SubT.cons (qaw h e) k
theorem zB (h:lk T t=some v)(k:SubT T1 T):SubT ((t,v)::T1) T:=SubT.cons h k
theorem zI {rs:List ResultVar}{Post:AV→List (Nat×Ob)→Prop}{vs:List AV}{e:Exit}(hL:∀ l,c.L l↔inD [] l=true)(hr:qiu P σ rs=some vs)(hv:AV.allLs (inD []) vs=true)(hP:Post (resV vs) [])(he:e=.ret∨e=.normal:=by first|exact .inl rfl|exact .inr rfl):retQ P c N rs Post e σ:=ret0 (noL hL) he hr hv hP
theorem zK {K:St→Prop}(h:K σ):awps P c N ops [] (qmn K Q) σ:=qc (qa h)
theorem zR {O1:List (Nat×Ob)}(hL:∀ l,c.L l↔inD [] l=true)(h:SubT T1 T)(k:SubO O1 O)(hT:allT (inD O1) T1=true:=by rfl)(hO:allO (inD O1) O1=true:=by rfl):Sub c N ⟨T,O⟩ ⟨T1,O1⟩:=qC h k hT hO (noL' (noL hL) _)
def mvY (T:List (Nat×AV))(o:Oper):Option (Nat×AV):=match o.dst with
 | some d=>(match o.op with
   | .move x=>(ev T x).map fun v=>(d,v)
   | .assign x=>(ev T x).map fun v=>(d,v)
   | _=>none)
 | none=>none
theorem zX (h:mvY T o=some (d,v))(K:awps P c N ops rest Q ⟨(d,v)::T,O⟩)(hg:o.guard=none:=by rfl)(hN:d<N:=by decide):awps P c N ops (o::rest) Q ⟨T,O⟩:=by
 unfold mvY at h
 split at h
 ·rename_i d' hd
  split at h
  ·rename_i x ho
   obtain ⟨v',hx,e⟩:=Option.map_eq_some_iff.1 h
   cases e
   exact zM hd ho hx K hg hN
  ·rename_i x ho
   obtain ⟨v',hx,e⟩:=Option.map_eq_some_iff.1 h
   cases e
   exact zN hd ho hx K hg hN
  ·cases h
 ·cases h
def gsY (p:Bool)(N:Nat)(T:List (Nat×AV))(ops:Array Oper)(o:Oper):Option Nat:=match o.guard with
 | some (j,b)=>(match (ops[j]?).bind (·.dst) with
   | some t=>(match lk T t with
     | some (.imm (.bool b'))=>(match b'==b,p,Nat.ble (t+1) N with
       | false,false,true=>o.dst
       | true,true,true=>o.dst
       | _,_,_=>none)
     | _=>none)
   | none=>none)
 | none=>none
theorem gsY_e {p:Bool}(h:gsY p N T ops o=some d):∃ j b t b',o.guard=some (j,b)∧(ops[j]?).bind (·.dst)=some t∧lk T t=some (.imm (.bool b'))∧(b'==b)=p∧t<N∧o.dst=some d:=by
 unfold gsY at h
 split at h
 ·rename_i j b hg
  split at h
  ·rename_i t hj
   split at h
   ·rename_i b' ht
    split at h
    ·exact ⟨j,b,t,b',hg,hj,ht,by assumption,Nat.le_of_ble_eq_true (by assumption),h⟩
    ·exact ⟨j,b,t,b',hg,hj,ht,by assumption,Nat.le_of_ble_eq_true (by assumption),h⟩
    ·cases h
   ·cases h
  ·cases h
 ·cases h
theorem zY (h:gsY false N T ops o=some d)(K:awps P c N ops rest Q ⟨(d,.imm undef)::T,O⟩)(hN:d<N:=by decide):awps P c N ops (o::rest) Q ⟨T,O⟩:=by
 obtain ⟨j,b,t,b',hg,hj,ht,hb,htN,hd⟩:=gsY_e h
 exact zS hg hj ht hd K hb htN hN
theorem zZ (h:gsY true N T ops o=some d)(s:Stp P c N o ⟨T,O⟩ need v [])(K:awps P c N ops rest Q ⟨(d,v)::T,O⟩)(hN:d<N:=by decide):awps P c N ops (o::rest) Q ⟨T,O⟩:=by
 obtain ⟨j,b,t,b',hg,hj,ht,hb,htN,hd⟩:=gsY_e h
 rw [eq_of_beq hb] at ht
 exact zG hg hj ht hd s K htN hN
end Go.Proofs.YtpgceiijoedppaaGreat