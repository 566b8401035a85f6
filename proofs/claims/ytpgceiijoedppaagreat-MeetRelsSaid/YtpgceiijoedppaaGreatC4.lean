/- Part 4 of the proof: SymJ, SymK, SymL. -/
import Derived.Test.YtpgceiijoedppaaGreatC3
set_option linter.unusedVariables false
set_option linter.unusedSimpArgs false
namespace Go.Proofs.YtpgceiijoedppaaGreat
open Go
variable {D:Nat→Prop}{S:Bool→Nat→Prop}{a:Act}{i id j:Nat}{l:List Oper}{listed:Array Bool}{o:Oper}{w:World}{ρ:Nat→Value}{σ σ' σ0:St}
structure MS where
 need:List Nat
 v:AV
 new:List (Nat×Ob)
 old:List Nat:=[]
def deps (o:Oper):List Nat:=(o.after.toList.filter (Region.binds .any)).map (·.on)
def StpU (P:Program)(c:Ctx)(N:Nat)(o:Oper)(σ:St)(need:List Nat)(v:AV)(new:List (Nat×Ob))(old:List Nat):Prop:=
 (∀ d,o.dst=some d→d<N)→∀ σ':St,(∀ x∈o.op.operands,∀ u,ev σ.T x=some u→ev σ'.T x=some u)→(∀ l∈need,∀ ob,ok σ.O l=some ob→ok σ'.O l=some ob)→(∀ p∈new,p.1∉old→ok σ'.O p.1=none)→
  AOp P c N o σ' (fun σ2=>σ2=σ'.add o.dst v new)
inductive qlf (P:Program)(c:Ctx)(N:Nat)(ops:Array Oper)(o:Oper)(σ:St):MS→Prop where
 | run {need:List Nat} {v:AV} {new:List (Nat×Ob)} (hg:o.guard=none) (h:Stp P c N o σ need v new):qlf P c N ops o σ ⟨need,v,new,[]⟩
 | want {j t:Nat} {b:Bool} {need:List Nat} {v:AV} {new:List (Nat×Ob)} (hg:o.guard=some (j,b)) (hj:(ops[j]?).bind (·.dst)=some t) (ht:lk σ.T t=some (.imm (.bool b))) (htN:t<N) (h:Stp P c N o σ need v new):qlf P c N ops o σ ⟨need,v,new,[]⟩
 | skip {j t:Nat} {b b':Bool} (hg:o.guard=some (j,b)) (hj:(ops[j]?).bind (·.dst)=some t) (ht:lk σ.T t=some (.imm (.bool b'))) (hb:b'≠b) (htN:t<N):qlf P c N ops o σ ⟨[],.imm undef,[],[]⟩
 | skipu {j t:Nat} {b:Bool} (hg:o.guard=some (j,b)) (hj:(ops[j]?).bind (·.dst)=some t) (ht:lk σ.T t=some (.imm undef)) (htN:t<N):qlf P c N ops o σ ⟨[],.imm undef,[],[]⟩
 | upd {need:List Nat} {v:AV} {new:List (Nat×Ob)} {old:List Nat} (hg:o.guard=none) (h:StpU P c N o σ need v new old):qlf P c N ops o σ ⟨need,v,new,old⟩
inductive MRun (P:Program)(c:Ctx)(N:Nat)(ops:Array Oper):List Oper→St→List MS→St→Prop where
 | nil {σ:St}:MRun P c N ops [] σ [] σ
 | cons {o:Oper} {os:List Oper} {σ σ':St} {m:MS} {ms:List MS} (hd:∀ d,o.dst=some d→d<N) (h:qlf P c N ops o σ m) (r:MRun P c N ops os (σ.add o.dst m.v m.new) ms σ'):MRun P c N ops (o::os) σ (m::ms) σ'
def chkO (ops:Array Oper)(n:Nat):Bool:=
 (List.range n).all fun i=>match ops[i]? with
  | none=>false
  | some o=>
    (o.op.operands.toList.all fun x=>match x with
     | .tmp t=>(List.range n).all fun j=>j==i || ((ops[j]?).bind (·.dst) != some t) || (decide (j<i)&&(deps o).contains j)
     | _=>true)&&
    (match o.guard with
     | none=>true
     | some (j,_)=>decide (j<i)&&(deps o).contains j)&&
    ((List.range n).all fun j=>j==i || o.dst==none || ((ops[j]?).bind (·.dst) != o.dst))
def chkE (ops:Array Oper):Bool:=(List.range ops.size).all fun i=>match ops[i]? with
 | none=>false
 | some o=>(deps o).all fun d=>decide (d<i)
def qkz (ops:Array Oper):Nat→Nat→Nat→Bool
 | 0,_,_=>false
 | k+1,j,i=>match ops[j]? with
   | none=>false
   | some o=>(deps o).any fun d=>d==i || qkz ops k d i
def chkS (ops:Array Oper)(n:Nat):Bool:=(List.range ops.size).all fun j=>decide (j<n) || (List.range j).all fun i=>qkz ops ops.size j i
def chkN (ops:Array Oper)(ms:List MS):Bool:=
 (List.range ms.length).all fun i=>match ops[i]?,ms[i]? with
  | some o,some m=>
    (m.need.all fun l=>(List.range ms.length).all fun j=>match ms[j]? with
      | some m'=>!(m'.new.map (·.1)).contains l || (decide (j<i)&&(deps o).contains j) || j==i || (decide (i<j)&&(match ops[j]? with|some o'=>(deps o').contains i|none=>false))
      | none=>true)&&
    ((m.new.map (·.1)).all fun l=>(List.range ms.length).all fun j=>match ms[j]? with
      | some m'=>j==i || !(m'.new.map (·.1)).contains l || (decide (j<i)&&(deps o).contains j&&m.old.contains l) || (decide (i<j)&&(match ops[j]? with|some o'=>(deps o').contains i|none=>false))
      | none=>true)
  | _,_=>false
section
variable {P:Program}{c:Ctx}{N:Nat}{Q:Exit→St→Prop}{σ:St}{ops:Array Oper}
theorem MRun.at {os:List Oper}{ms:List MS}(h:MRun P c N ops os σ ms σ'):ms.length=os.length∧∃ F:Nat→St,F 0=σ∧F os.length=σ'∧
   ∀ (i:Nat) (o:Oper),os[i]?=some o→∃ m,ms[i]?=some m∧(∀ d,o.dst=some d→d<N)∧qlf P c N ops o (F i) m∧F (i+1)=(F i).add o.dst m.v m.new:=by
 induction h with
 | nil=>exact ⟨rfl,fun _=>_,rfl,rfl,by simp⟩
 | @cons o os σ σ' m ms hd hs hr ih=>
   obtain ⟨hl,F,h0,h1,h2⟩:=ih
   refine ⟨by simp [hl],fun i=>match i with|0=>σ|i+1=>F i,rfl,by simpa using h1,?_⟩
   intro i o' ho
   cases i with
   | zero=>
     simp only [List.getElem?_cons_zero,Option.some.injEq] at ho;subst ho
     exact ⟨m,by simp,hd,hs,h0⟩
   | succ i=>
     obtain ⟨m',hm,k1,k2,k3⟩:=h2 i o' (by simpa using ho)
     exact ⟨m',by simpa using hm,k1,k2,k3⟩
def AtD (ops:Array Oper)(ms:List MS)(σ0:St)(D:Nat→Prop)(σ:St):Prop:=
 (∀ t,(∃ j m,D j∧ms[j]?=some m∧(ops[j]?).bind (·.dst)=some t∧lk σ.T t=some m.v)∨((∀ j,D j→j<ms.length→(ops[j]?).bind (·.dst)≠some t)∧lk σ.T t=lk σ0.T t))∧
 (∀ l,(∃ j m,D j∧ms[j]?=some m∧l∈m.new.map (·.1)∧(∀ j' m',D j'→ms[j']?=some m'→j<j'→l∉m'.new.map (·.1))∧ok σ.O l=ok m.new l)∨((∀ j m,D j→ms[j]?=some m→l∉m.new.map (·.1))∧ok σ.O l=ok σ0.O l))
theorem qfz:∀ {L:List (Nat×Ob)} {l:Nat},l∉L.map (·.1)→ok L l=none
 | [],l,_=>rfl
 | (s,v)::L,l,h=>by
   simp only [List.map_cons,List.mem_cons,not_or] at h
   rw [qa0,if_neg (fun e=>h.1 e.symm)]
   exact qfz h.2
theorem qhU:∀ {L:List (Nat×Ob)} {l:Nat},l∈L.map (·.1)→∃ v,ok L l=some v
 | [],l,h=>by simp at h
 | (s,v)::L,l,h=>by
   rw [qa0]
   split
   ·exact ⟨v,rfl⟩
   ·rename_i hne
    simp only [List.map_cons,List.mem_cons] at h
    rcases h with h|h
    ·exact absurd h.symm hne
    ·exact qhU h
theorem lk_add (σ:St)(d:Option Nat)(v:AV)(new:List (Nat×Ob))(t:Nat):lk (σ.add d v new).T t=if d=some t then some v else lk σ.T t:=by
 cases d with
 | none=>simp [St.add]
 | some d=>simp only [St.add,qcm,Option.some.injEq]
theorem ok_add (σ:St)(d:Option Nat)(v:AV)(new:List (Nat×Ob))(l:Nat):ok (σ.add d v new).O l=(match ok new l with|some o=>some o|none=>ok σ.O l):=by
 cases d<;>simp only [St.add,qeN]<;>rfl
theorem AtD.add {ms:List MS}(h:AtD ops ms σ0 D σ){m:MS}(ho:ops[i]?=some o)(hm:ms[i]?=some m)
  (h1:∀ j,D j→j<ms.length→j≠i→∀ d,o.dst=some d→(ops[j]?).bind (·.dst)≠some d) (h2:∀ j m',D j→ms[j]?=some m'→j≠i→∀ l,l∈m.new.map (·.1)→l∈m'.new.map (·.1)→j<i):
  AtD ops ms σ0 (fun j=>D j∨j=i) (σ.add o.dst m.v m.new):=by
 have hil:i<ms.length:=by rcases List.getElem?_eq_some_iff.1 hm with ⟨h,_⟩;exact h
 refine ⟨fun t=>?_,fun l=>?_⟩
 ·by_cases hd:o.dst=some t
  ·exact .inl ⟨i,m,.inr E,hm,by simp [ho,hd],by rw [lk_add,if_pos hd]⟩
  ·rw [lk_add,if_neg hd]
   rcases h.1 t with ⟨j,m',k1,k2,k3,k4⟩|⟨k1,k2⟩
   ·exact .inl ⟨j,m',.inl k1,k2,k3,k4⟩
   ·refine .inr ⟨fun j hj hlt=>?_,k2⟩
    rcases hj with hj|rfl
    ·exact k1 j hj hlt
    ·simpa [ho] using hd
 ·by_cases hl:l∈m.new.map (·.1)
  ·obtain ⟨v,hv⟩:=qhU hl
   refine .inl ⟨i,m,.inr E,hm,hl,fun j' m' hj' hm' hlt hin=>?_,by rw [ok_add,hv]⟩
   rcases hj' with hj'|rfl
   ·have:=h2 j' m' hj' hm' (by omega) l hl hin;omega
   ·omega
  ·rw [ok_add,qfz hl]
   simp only
   rcases h.2 l with ⟨j,m',k1,k2,k3,kx,k4⟩|⟨k1,k2⟩
   ·refine .inl ⟨j,m',.inl k1,k2,k3,fun j' m'' hj' hm' hlt=>?_,k4⟩
    rcases hj' with hj'|rfl
    ·exact kx j' m'' hj' hm' hlt
    ·rw [hm] at hm';simp only [Option.some.injEq] at hm';subst hm';exact hl
   ·refine .inr ⟨fun j m' hj hm'=>?_,k2⟩
    rcases hj with hj|rfl
    ·exact k1 j m' hj hm'
    ·rw [hm] at hm';simp only [Option.some.injEq] at hm';subst hm';exact hl
theorem AtD.congr {ms:List MS}{D':Nat→Prop}(h:AtD ops ms σ0 D σ)(hD:∀ j,j<ms.length→(D j↔D' j)):AtD ops ms σ0 D' σ:=by
 have hlt:∀ j m,ms[j]?=some m→j<ms.length:=fun j m hm=>by rcases List.getElem?_eq_some_iff.1 hm with ⟨h,_⟩;exact h
 refine ⟨fun t=>?_,fun l=>?_⟩
 ·rcases h.1 t with ⟨j,m',k1,k2,k3,k4⟩|⟨k1,k2⟩
  ·exact .inl ⟨j,m',(hD j (hlt j m' k2)).1 k1,k2,k3,k4⟩
  ·exact .inr ⟨fun j hj hl=>k1 j ((hD j hl).2 hj) hl,k2⟩
 ·rcases h.2 l with ⟨j,m',k1,k2,k3,kx,k4⟩|⟨k1,k2⟩
  ·exact .inl ⟨j,m',(hD j (hlt j m' k2)).1 k1,k2,k3,fun j' m'' hj' hm'=>kx j' m'' ((hD j' (hlt j' m'' hm')).2 hj') hm',k4⟩
  ·exact .inr ⟨fun j m' hj hm'=>k1 j m' ((hD j (hlt j m' hm')).2 hj) hm',k2⟩
theorem qkm (hT:∀ t,lk σ'.T t=lk σ.T t)(hO:∀ l,ok σ'.O l=ok σ.O l):Sub c N σ σ':=by
 rintro a w ⟨ρ,S,hc⟩
 have hU:∀ l,σ.U l→σ'.U l:=fun l h=>by simp only [St.U,hO] at h ⊢;exact h
 refine ⟨ρ,S,⟨hc.tm,hc.df,fun t v ht=>(hc.T t v (by rw [← hT];exact ht)).mono (fun _ _ h=>h) (fun _ _ _=>rfl) hU (fun _ _=>rfl),fun l ob hl=>(hc.O l ob (by rw [← hO];exact hl)).mono (fun _ _ h=>h) (fun _ _ _=>rfl) hU (fun _ _=>rfl) (by simp only [St.U];rw [← hO,hl];rfl) (fun _ _=>rfl),
  fun l l' ob ob' b h1 h2=>hc.dj l l' ob ob' b (by rw [← hO];exact h1) (by rw [← hO];exact h2),fun l ob b f h1=>hc.dS l ob b f (by rw [← hO];exact h1),fun l ob b h1=>hc.wr l ob b (by rw [← hO];exact h1),fun l ob b h1=>hc.lt l ob b (by rw [← hO];exact h1),hc.SS,hc.Sb,hc.Sn,hc.So,fun l hl=>?_,hc.fm⟩⟩
 obtain ⟨h1,h2⟩:=hc.lo l hl
 exact ⟨by rw [hO];exact h1,h2⟩
theorem C_drawn (h:C c N σ a w):C c N σ a { w with drawn:=w.drawn+1 }:=by
 obtain ⟨ρ,S,hc⟩:=h
 exact ⟨ρ,S,hc.grow (W:=fun _=>False) ⟨rfl,rfl,rfl,Nat.le_refl _,fun _ _ _=>rfl,Nat.le_succ _⟩ (fun _ _ _ h=>h) (fun _ _ _ _ _ _ h=>h) (fun _ _ h=>h.elim)⟩
theorem qlG (hc:Conc c N σ a w ρ S){t:Nat}{b:Bool}(hj:(ops[j]?).bind (·.dst)=some t)(ht:lk σ.T t=some (.imm (.bool b)))(htN:t<N):yielded ops a.tmps j=some b:=by
 have h1:=hc.T t _ ht
 simp only [Rep] at h1
 have hlt:t<a.tmps.size:=by rw [hc.tm];exact htN
 have h2:a.tmps[t]?=some (.bool b):=by
  rw [Array.getD_eq_getD_getElem?,Array.getElem?_eq_getElem hlt] at h1
  rw [Array.getElem?_eq_getElem hlt]
  simpa using h1
 simp [yielded,hj,h2]
theorem qmg (hc:Conc c N σ a w ρ S){t:Nat}(hj:(ops[j]?).bind (·.dst)=some t)(ht:lk σ.T t=some (.imm undef))(htN:t<N):yielded ops a.tmps j=none:=by
 have h1:=hc.T t _ ht
 simp only [Rep] at h1
 have h2:a.tmps[t]?=some undef:=by
  have hlt:t<a.tmps.size:=by rw [hc.tm];exact htN
  rw [Array.getD_eq_getD_getElem?] at h1
  rw [Array.getElem?_eq_getElem hlt] at h1 ⊢
  simpa using h1
 simp [yielded,hj,h2,undef]
theorem qlZ (h:i∈Region.ready .any ops listed):i<ops.size∧listed.getD i true=false∧∃ o,ops[i]?=some o∧∀ d∈deps o,listed.getD d false=true:=by
 unfold Region.ready at h
 rw [List.mem_filter] at h
 obtain ⟨h1,h2⟩:=h
 have hlt:i<ops.size:=by simpa using h1
 simp only [Bool.and_eq_true,Bool.not_eq_true'] at h2
 obtain ⟨h2,h3⟩:=h2
 refine ⟨hlt,h2,ops[i],by simp [hlt],fun d hd=>?_⟩
 simp only [Array.getElem?_eq_getElem hlt,Option.map_some,Option.getD_some] at h3
 simp only [deps,List.mem_map,List.mem_filter] at hd
 obtain ⟨e,⟨he,hb⟩,rfl⟩:=hd
 have:=(Array.all_eq_true_iff_forall_mem.1 h3) e (by simpa using he)
 simpa [hb] using this
theorem qpT (ho:ops[i]?=some o)(h1:listed.getD i true=false)(h2:∀ d∈deps o,listed.getD d false=true):i∈Region.ready .any ops listed:=by
 have hlt:i<ops.size:=by rcases Array.getElem?_eq_some_iff.1 ho with ⟨h,_⟩;exact h
 unfold Region.ready
 rw [List.mem_filter]
 refine ⟨by simpa using hlt,?_⟩
 simp only [Bool.and_eq_true,Bool.not_eq_true']
 refine ⟨h1,?_⟩
 rw [ho]
 simp only [Option.map_some,Option.getD_some]
 refine Array.all_eq_true_iff_forall_mem.2 fun e he=>?_
 by_cases hb:Region.binds .any e=true
 ·simp only [hb,Bool.not_true,Bool.false_or]
  exact h2 e.on (by simp only [deps,List.mem_map,List.mem_filter];exact ⟨e,⟨by simpa using he,hb⟩,rfl⟩)
 ·simp [hb]
theorem qg5 {listed:Array Bool}(hcl:∀ j o,ops[j]?=some o→listed.getD j false=true→∀ d∈deps o,listed.getD d false=true):∀ (k j i:Nat) (o:Oper),ops[j]?=some o→(∀ d∈deps o,listed.getD d false=true)→qkz ops k j i=true→listed.getD i false=true
 | 0,j,i,o,_,_,h=>by simp [qkz] at h
 | k+1,j,i,o,ho,hd,h=>by
   simp only [qkz,ho,List.any_eq_true,Bool.or_eq_true,beq_iff_eq] at h
   obtain ⟨d,hdm,h|h⟩:=h
   ·subst h;exact hd d hdm
   ·cases hod:ops[d]? with
    | none=>cases k<;>simp [qkz,hod] at h
    | some od=>exact qg5 hcl k d i od hod (fun e he=>hcl d od hod (hd d hdm) e he) h
theorem qd7 (d:Bool)(hi:i<listed.size):(listed.setIfInBounds i true).getD j d=if j=i then true else listed.getD j d:=by
 rw [Array.getD_eq_getD_getElem?,Array.getD_eq_getD_getElem?,Array.getElem?_setIfInBounds]
 by_cases h:i=j
 ·subst h;simp [hi]
 ·simp [h,Ne.symm h]
theorem qmR (hi:i<listed.size)(d d':Bool):listed.getD i d=listed.getD i d':=by
 rw [Array.getD_eq_getD_getElem?,Array.getD_eq_getD_getElem?,Array.getElem?_eq_getElem hi];rfl
theorem any_rest (hE:chkE ops=true){n:Nat}(hS:chkS ops n=true):∀ (fuel m:Nat) (listed:Array Bool) (a:Act) (w:World),n≤m→listed.size=ops.size→(∀ i,i<ops.size→(listed.getD i false=true↔i<m))→ops.size≤m+fuel→
   wpList P ops (wQ c N Q) (ops.toList.drop m) a w→wpAny P .any ops (wQ c N Q) fuel listed a w:=by
 have hdep:∀ i o,ops[i]?=some o→∀ d∈deps o,d<i:=by
   intro i o ho d hd
   have hlt:i<ops.size:=by rcases Array.getElem?_eq_some_iff.1 ho with ⟨h,_⟩;exact h
   have:=(List.all_eq_true.1 hE) i (by simpa using hlt)
   rw [ho] at this
   have:=(List.all_eq_true.1 this) d hd
   simpa using this
 have hreach:∀ j,n≤j→j<ops.size→∀ i,i<j→qkz ops ops.size j i=true:=by
   intro j hj hlt i hi
   have:=(List.all_eq_true.1 hS) j (by simpa using hlt)
   simp only [Bool.or_eq_true,decide_eq_true_eq] at this
   rcases this with h|h
   ·omega
   ·exact (List.all_eq_true.1 h) i (by simpa using hi)
 intro fuel
 have hready:∀ (m:Nat) (listed:Array Bool),n≤m→listed.size=ops.size→(∀ i,i<ops.size→(listed.getD i false=true↔i<m))→∀ i∈Region.ready .any ops listed,i=m∧m<ops.size:=by
   intro m listed hm hsz hl i hi
   obtain ⟨h1,h2,o,ho,h3⟩:=qlZ hi
   have hnot:¬ i<m:=fun h=>by
    have:=(hl i h1).2 h
    rw [qmR (by omega) false true,h2] at this;cases this
   by_cases he:i=m
   ·exact ⟨he,by omega⟩
   ·exfalso
    have hr:=hreach i (by omega) h1 m (by omega)
    have hm':=qg5 (listed:=listed) (fun j oj hoj hlj d hd=>by
     have hjl:j<ops.size:=by rcases Array.getElem?_eq_some_iff.1 hoj with ⟨h,_⟩;exact h
     have hjm:=(hl j hjl).1 hlj
     have hdj:=hdep j oj hoj d hd
     exact (hl d zO).2 zO) _ i m o ho h3 hr
    have:=(hl m (by omega)).1 hm'
    omega
 have hempty:∀ (m:Nat) (listed:Array Bool),listed.size=ops.size→(∀ i,i<ops.size→(listed.getD i false=true↔i<m))→m<ops.size→Region.ready .any ops listed≠[]:=by
   intro m listed hsz hl hlt he
   have:m∈Region.ready .any ops listed:=qpT (o:=ops[m]) (by simp [hlt]) (by
    have h1:¬ listed.getD m false=true:=fun h=>by have:=(hl m hlt).1 h;omega
    rw [qmR (by omega) true false];simpa using h1) (fun d hd=>by
    have hdm:=hdep m ops[m] (by simp [hlt]) d hd
    exact (hl d zO).2 hdm)
   rw [he] at this;simp at this
 induction fuel with
 | zero=>
   intro m listed a w hm hsz hl hf hw
   have hr:Region.ready .any ops listed=[]:=by
    rw [List.eq_nil_iff_forall_not_mem]
    intro i hi
    have:=hready m listed hm hsz hl i hi
    omega
   refine ⟨hr,?_⟩
   rw [List.drop_eq_nil_of_le (by simpa using hf)] at hw
   exact hw
 | succ fuel ih=>
   intro m listed a w hm hsz hl hf hw
   refine ⟨fun he=>?_,fun i hi=>?_⟩
   ·by_cases hlt:m<ops.size
    ·exact absurd he (hempty m listed hsz hl hlt)
    ·rw [List.drop_eq_nil_of_le (by simpa using Nat.le_of_not_lt hlt)] at hw
     exact hw
   ·obtain ⟨rfl,hlt⟩:=hready m listed hm hsz hl i hi
    have hdrop:ops.toList.drop i=ops[i]::ops.toList.drop (i+1):=by
     rw [List.drop_eq_getElem_cons (by simpa using hlt)];simp
    rw [hdrop] at hw
    have hl':∀ k,k<ops.size→((listed.setIfInBounds i true).getD k false=true↔k<i+1):=by
     intro k hk
     rw [qd7 false (by omega)]
     by_cases he:k=i
     ·simp [he]
     ·rw [if_neg he,hl k hk];omega
    have hK:∀ a w,wpList P ops (wQ c N Q) (ops.toList.drop (i+1)) a w→wpAny P .any ops (wQ c N Q) fuel (listed.setIfInBounds i true) a w:=fun a w h=>ih (i+1) _ a w (by omega) (by simp [hsz]) hl' (by omega) h
    unfold wpOp
    simp only [Array.getElem?_eq_getElem hlt]
    unfold wpList at hw
    split
    ·rename_i hwn
     rw [if_pos hwn] at hw
     exact hw.imp (Oper.wp_mono hK) id
    ·rename_i hwn
     rw [if_neg hwn] at hw
     exact hK _ _ hw
theorem awp_draw {l1 l2:List Oper}{ms:List MS}(hm:P.follows .mixedOrders=true)(hl:l=l1++l2)(hC:chkO l.toArray l1.length=true)(hE:chkE l.toArray=true)(hS:chkS l.toArray l1.length=true)
    (hr:MRun P c N l.toArray l1 σ ms σ') (hN:chkN l.toArray ms=true) (hnew:∀ m∈ms,∀ p∈m.new,p.1∉m.old→ok σ.O p.1=none) (K:awps P c N l.toArray l2 Q σ'):awp P c N (.region id l.toArray true) Q σ:=by
  obtain ⟨hml,F,hF0,hFn,hFs⟩:=hr.at
  have hop:∀ i,i<l1.length→l.toArray[i]?=l1[i]?:=fun i hi=>by
    rw [List.getElem?_toArray,hl,List.getElem?_append_left hi]
  have hlsz:l.toArray.size=l1.length+l2.length:=by simp [hl]
  have hC1:∀ i o,l1[i]?=some o→(∀ t,.tmp t∈o.op.operands→∀ j,j<l1.length→j≠i→(l.toArray[j]?).bind (·.dst)=some t→j<i∧j∈deps o)∧(∀ j b,o.guard=some (j,b)→j<i∧j∈deps o)∧(∀ d,o.dst=some d→∀ j,j<l1.length→j≠i→(l.toArray[j]?).bind (·.dst)≠some d):=by
    intro i o ho
    have hi:i<l1.length:=by rcases List.getElem?_eq_some_iff.1 ho with ⟨h,_⟩;exact h
    have:=(List.all_eq_true.1 hC) i (by simpa using hi)
    rw [hop i hi,ho] at this
    simp only [Bool.and_eq_true] at this
    obtain ⟨⟨h1,h2⟩,h3⟩:=this
    refine ⟨fun t ht j hj hne hd=>?_,fun j b hg=>?_,fun d hd j hj hne he=>?_⟩
    · have:=(List.all_eq_true.1 h1) (.tmp t) (by simpa using ht)
      have:=(List.all_eq_true.1 this) j (by simpa using hj)
      simp only [Bool.or_eq_true,beq_iff_eq,bne_iff_ne,ne_eq,Bool.and_eq_true,decide_eq_true_eq,List.contains_iff_mem] at this
      rcases this with (h|h)|h
      · exact absurd h hne
      · exact absurd hd h
      · exact h
    · rw [hg] at h2
      simpa [List.contains_iff_mem] using h2
    · have:=(List.all_eq_true.1 h3) j (by simpa using hj)
      simp only [Bool.or_eq_true,beq_iff_eq,bne_iff_ne,ne_eq] at this
      rcases this with (h|h)|h
      · exact hne h
      · rw [hd] at h;cases h
      · exact h (by rw [hd];exact he)
  have hN1:∀ i o m,l1[i]?=some o→ms[i]?=some m→(∀ k∈m.need,∀ j m',ms[j]?=some m'→k∈m'.new.map (·.1)→(j<i∧j∈deps o)∨j=i∨(i<j∧∃ o',l.toArray[j]?=some o'∧i∈deps o'))∧(∀ k,k∈m.new.map (·.1)→∀ j m',ms[j]?=some m'→j≠i→k∈m'.new.map (·.1)→(j<i∧j∈deps o∧k∈m.old)∨(i<j∧∃ o',l.toArray[j]?=some o'∧i∈deps o')):=by
    intro i o m ho hmi
    have hi:i<l1.length:=by rcases List.getElem?_eq_some_iff.1 ho with ⟨h,_⟩;exact h
    have:=(List.all_eq_true.1 hN) i (by simpa using (by omega:i<ms.length))
    rw [hop i hi,ho,hmi] at this
    simp only [Bool.and_eq_true] at this
    obtain ⟨h1,h2⟩:=this
    refine ⟨fun k hk j m' hm' hin=>?_,fun k hk j m' hm' hne hin=>?_⟩
    · have:=(List.all_eq_true.1 h1) k hk
      have := (List.all_eq_true.1 this) j (by have : j < ms.length := by { rcases List.getElem?_eq_some_iff.1 hm' with ⟨h, _⟩; exact h }
                                              simpa using this)
      rw [hm'] at this
      simp only [Bool.or_eq_true,Bool.not_eq_true',Bool.and_eq_true,decide_eq_true_eq,List.contains_iff_mem,beq_iff_eq] at this
      rcases this with ((h|h)|h)|h
      · have hc:=List.contains_iff_mem.2 hin
        rw [h] at hc;cases hc
      · exact .inl h
      · exact .inr (.inl h)
      · refine .inr (.inr ⟨h.1,?_⟩)
        have h2:=h.2
        split at h2
        · rename_i o' ho';exact ⟨o',ho',List.contains_iff_mem.1 h2⟩
        · cases h2
    · have:=(List.all_eq_true.1 h2) k hk
      have := (List.all_eq_true.1 this) j (by have : j < ms.length := by { rcases List.getElem?_eq_some_iff.1 hm' with ⟨h, _⟩; exact h }
                                              simpa using this)
      rw [hm'] at this
      simp only [Bool.or_eq_true,Bool.not_eq_true',Bool.and_eq_true,decide_eq_true_eq,List.contains_iff_mem,beq_iff_eq] at this
      rcases this with ((h|h)|h)|h
      · exact absurd h hne
      · have hc:=List.contains_iff_mem.2 hin
        rw [h] at hc;cases hc
      · exact .inl ⟨h.1.1,h.1.2,h.2⟩
      · refine .inr ⟨h.1,?_⟩
        have h2:=h.2
        split at h2
        · rename_i o' ho';exact ⟨o',ho',List.contains_iff_mem.1 h2⟩
        · cases h2
  have hget:∀ i,i<l1.length→∃ o m,l1[i]?=some o∧ms[i]?=some m∧(∀ d,o.dst=some d→d<N)∧qlf P c N l.toArray o (F i) m∧F (i+1)=(F i).add o.dst m.v m.new:=by
    intro i hi
    obtain ⟨m,h1,h2,h3,h4⟩:=hFs i l1[i] (by simp [hi])
    exact ⟨l1[i],m,by simp [hi],h1,h2,h3,h4⟩
  have hFD:∀ i,i≤l1.length→AtD l.toArray ms σ (fun j=>j<i) (F i):=by
    intro i
    induction i with
    | zero=>intro _;rw [hF0];exact ⟨fun t=>.inr ⟨fun j hj=>by omega,rfl⟩,fun k=>.inr ⟨fun j m hj=>by omega,rfl⟩⟩
    | succ i ih=>
      intro hi
      obtain ⟨o,m,ho,hmi,_,_,hstep⟩:=hget i (by omega)
      rw [hstep]
      refine ((ih zO).add (by rw [hop i zO];exact ho) hmi (fun j hj hlt hne d hd=>(hC1 i o ho).2.2 d hd j zO hne) (fun j m' hj hm' hne k hk hin=>hj)).congr ?_
      intro j hj
      omega
  have hgo:∀ (i:Nat) (o:Oper) (m:MS) (D:Nat→Prop) (τ:St),l1[i]?=some o→ms[i]?=some m→¬ D i→(∀ d∈deps o,D d)→(∀ j o',l.toArray[j]?=some o'→D j→∀ d∈deps o',D d)→AtD l.toArray ms σ D τ→
      (∀ x∈o.op.operands,∀ u,ev (F i).T x=some u→ev τ.T x=some u)∧(∀ k∈m.need,∀ ob,ok (F i).O k=some ob→ok τ.O k=some ob)∧(∀ p∈m.new,p.1∉m.old→ok τ.O p.1=none)∧(∀ j b t,o.guard=some (j,b)→(l.toArray[j]?).bind (·.dst)=some t→lk τ.T t=lk (F i).T t):=by
    intro i o m D τ ho hmi hDi hdep hcls hτ
    have hi:i<l1.length:=by rcases List.getElem?_eq_some_iff.1 ho with ⟨h,_⟩;exact h
    have hFi:=hFD i (by omega)
    have hmlt:∀ j m',ms[j]?=some m'→j<l1.length:=fun j m' h=>by rcases List.getElem?_eq_some_iff.1 h with ⟨h,_⟩;omega
    have huniq:∀ t j j',j<l1.length→j'<l1.length→(l.toArray[j]?).bind (·.dst)=some t→(l.toArray[j']?).bind (·.dst)=some t→j=j':=by
      intro t j j' hj hj' h1 h2
      by_cases he:j=j'
      · exact he
      · exfalso
        have ho':l1[j]?=some l1[j]:=by simp [hj]
        rw [hop j hj,ho'] at h1
        exact (hC1 j l1[j] ho').2.2 t (by simpa using h1) j' hj' (fun e=>he e.symm) h2
    have hT:∀ t,(∀ j,j<l1.length→j≠i→(l.toArray[j]?).bind (·.dst)=some t→j<i∧j∈deps o)→lk τ.T t=lk (F i).T t:=by
      intro t ht
      rcases hτ.1 t with ⟨j,mj,k1,k2,k3,k4⟩|⟨k1,k2⟩
      · have hj:=hmlt j mj k2
        have hne:j≠i:=fun e=>hDi (e▸k1)
        obtain ⟨h1,h2⟩:=ht j hj hne k3
        rcases hFi.1 t with ⟨j',mj',q1,q2,q3,q4⟩|⟨q1,q2⟩
        · have:=huniq t j j' hj (hmlt j' mj' q2) k3 q3
          subst this
          rw [k2] at q2;simp only [Option.some.injEq] at q2;subst q2
          rw [k4,q4]
        · exact absurd k3 (q1 j h1 (by omega))
      · rcases hFi.1 t with ⟨j',mj',q1,q2,q3,q4⟩|⟨q1,q2⟩
        · have hj':=hmlt j' mj' q2
          obtain ⟨h1,h2⟩:=ht j' hj' (by omega) q3
          exact absurd q3 (k1 j' (hdep j' h2) zO)
        · rw [k2,q2]
    refine ⟨fun x hx u hu=>?_,fun k hk ob hob=>?_,fun p hp hold=>?_,fun j b t hg hj=>?_⟩
    · cases x with
      | tmp t=>simp only [ev] at hu ⊢;rw [hT t (fun j hj hne hd=>(hC1 i o ho).1 t hx j hj hne hd)];exact hu
      | const v=>exact hu
      | func f=>exact hu
      | global g=>exact hu
    · have hb:∀ j mj,D j→ms[j]?=some mj→k∈mj.new.map (·.1)→j<i:=fun j mj k1 k2 k3=>by
        rcases (hN1 i o m ho hmi).1 k hk j mj k2 k3 with ⟨h1,_⟩|h|⟨_,o',ho',h2⟩
        · exact h1
        · exact absurd (h▸k1) hDi
        · exact absurd (hcls j o' ho' k1 i h2) hDi
      have hb':∀ j mj,j<i→ms[j]?=some mj→k∈mj.new.map (·.1)→D j:=fun j mj k1 k2 k3=>by
        rcases (hN1 i o m ho hmi).1 k hk j mj k2 k3 with ⟨_,h2⟩|h|⟨h,_⟩
        · exact hdep j h2
        · omega
        · omega
      rcases hτ.2 k with ⟨j,mj,k1,k2,k3,kx,k4⟩|⟨k1,k2⟩
      · have h1:=hb j mj k1 k2 k3
        rcases hFi.2 k with ⟨j',mj',q1,q2,q3,qx,q4⟩|⟨q1,q2⟩
        · have hj':=hb' j' mj' q1 q2 q3
          have:j=j':=by
            rcases Nat.lt_trichotomy j j' with h|h|h
            · exact absurd q3 (kx j' mj' hj' q2 h)
            · exact h
            · exact absurd k3 (qx j mj h1 k2 h)
          subst this
          rw [k2] at q2;simp only [Option.some.injEq] at q2;subst q2
          rw [k4,← q4];exact hob
        · exact absurd k3 (q1 j mj h1 k2)
      · rcases hFi.2 k with ⟨j',mj',q1,q2,q3,qx,q4⟩|⟨q1,q2⟩
        · exact absurd q3 (k1 j' mj' (hb' j' mj' q1 q2 q3) q2)
        · rw [k2,← q2];exact hob
    · have hpm:p.1∈m.new.map (·.1):=List.mem_map.2 ⟨p,hp,rfl⟩
      rcases hτ.2 p.1 with ⟨j,mj,k1,k2,k3,kx,k4⟩|⟨k1,k2⟩
      · have hne:j≠i:=fun e=>hDi (e▸k1)
        rcases (hN1 i o m ho hmi).2 p.1 hpm j mj k2 hne k3 with ⟨_,_,h⟩|⟨_,o',ho',h⟩
        · exact absurd h hold
        · exact absurd (hcls j o' ho' k1 i h) hDi
      · rw [k2];exact hnew m (List.mem_of_getElem? hmi) p hp hold
    · obtain ⟨h1,h2⟩:=(hC1 i o ho).2.1 j b hg
      refine hT t fun j' hj' hne hd=>?_
      have:=huniq t j' j hj' (by omega) hd hj
      subst this
      exact ⟨h1,h2⟩
  have phase:∀ (fuel:Nat) (listed:Array Bool) (a:Act) (w:World) (τ:St),listed.size=l.toArray.size→(∀ j,l1.length≤j→j<l.toArray.size→listed.getD j false=false)→(∀ j o,l.toArray[j]?=some o→listed.getD j false=true→∀ d∈deps o,listed.getD d false=true)→
      l.toArray.size≤fuel+((List.range l.toArray.size).filter fun j=>listed.getD j false).length→AtD l.toArray ms σ (fun j=>listed.getD j false=true) τ→C c N τ a w→wpAny P .any l.toArray (wQ c N Q) fuel listed a w:=by
    have hdep:∀ i o,l.toArray[i]?=some o→∀ d∈deps o,d<i:=by
      intro i o ho d hd
      have hlt:i<l.toArray.size:=by rcases Array.getElem?_eq_some_iff.1 ho with ⟨h,_⟩;exact h
      have:=(List.all_eq_true.1 hE) i (by simpa using hlt)
      rw [ho] at this
      have:=(List.all_eq_true.1 this) d hd
      simpa using this
    have hall:∀ (fuel:Nat) (listed:Array Bool) (a:Act) (w:World) (τ:St),listed.size=l.toArray.size→(∀ j,l1.length≤j→j<l.toArray.size→listed.getD j false=false)→(∀ j,j<l1.length→listed.getD j false=true)→l.toArray.size≤l1.length+fuel→
        AtD l.toArray ms σ (fun j=>listed.getD j false=true) τ→C c N τ a w→wpAny P .any l.toArray (wQ c N Q) fuel listed a w:=by
      intro fuel listed a w τ hsz hhi hlo hf hτ hc
      have hsub:Sub c N τ σ':=by
        have h1:=hFD l1.length (Nat.le_refl _)
        rw [hFn] at h1
        have h2:AtD l.toArray ms σ (fun j=>j<l1.length) τ:=hτ.congr fun j hj=>⟨fun _=>by omega,fun h=>hlo j h⟩
        refine qkm (fun t=>?_) (fun k=>?_)
        · rcases h1.1 t with ⟨j,mj,k1,k2,k3,k4⟩|⟨k1,k2⟩
          · rcases h2.1 t with ⟨j',mj',q1,q2,q3,q4⟩|⟨q1,q2⟩
            · have:j=j':=by
                by_cases he:j=j'
                · exact he
                · exfalso
                  have ho':l1[j]?=some (l1[j]'k1):=by simp [k1]
                  rw [hop j k1,ho'] at k3
                  exact (hC1 j _ ho').2.2 t (by simpa using k3) j' q1 (fun e=>he e.symm) q3
              subst this
              rw [k2] at q2;simp only [Option.some.injEq] at q2;subst q2
              rw [k4,q4]
            · exact absurd k3 (q1 j k1 (by omega))
          · rcases h2.1 t with ⟨j',mj',q1,q2,q3,q4⟩|⟨q1,q2⟩
            · exact absurd q3 (k1 j' q1 (by omega))
            · rw [k2,q2]
        · rcases h1.2 k with ⟨j,mj,k1,k2,k3,kx,k4⟩|⟨k1,k2⟩
          · rcases h2.2 k with ⟨j',mj',q1,q2,q3,qx,q4⟩|⟨q1,q2⟩
            · have:j=j':=by
                rcases Nat.lt_trichotomy j j' with h|h|h
                · exact absurd q3 (kx j' mj' q1 q2 h)
                · exact h
                · exact absurd k3 (qx j mj k1 k2 h)
              subst this
              rw [k2] at q2;simp only [Option.some.injEq] at q2;subst q2
              rw [k4,q4]
            · exact absurd k3 (q1 j mj k1 k2)
          · rcases h2.2 k with ⟨j',mj',q1,q2,q3,qx,q4⟩|⟨q1,q2⟩
            · exact absurd q3 (k1 j' mj' q1 q2)
            · rw [k2,q2]
      refine any_rest hE hS fuel l1.length listed a w (Nat.le_refl _) hsz (fun i hi=>⟨fun h=>?_,fun h=>hlo i h⟩) hf ?_
      · by_cases hlt:i<l1.length
        · exact hlt
        · rw [hhi i (by omega) hi] at h;cases h
      · have:l.toArray.toList.drop l1.length=l2:=by simp [hl]
        rw [this]
        exact K a w (hsub a w hc)
    have hleast:∀ (listed:Array Bool),listed.size=l.toArray.size→(∃ j,j<l1.length∧listed.getD j false=false)→∃ j,j<l1.length∧j∈Region.ready .any l.toArray listed:=by
      rintro listed hsz ⟨j0,hj0,hn0⟩
      have key:∀ k,k<l1.length→listed.getD k false=false→∃ j,j<l1.length∧j∈Region.ready .any l.toArray listed:=by
        intro k
        induction k using Nat.strongRecOn with
        | _ k ih=>
          intro hk hn
          have ho:l.toArray[k]?=some (l1[k]'hk):=by rw [hop k hk];simp [hk]
          by_cases hd:∀ d∈deps (l1[k]'hk),listed.getD d false=true
          · exact ⟨k,hk,qpT ho (by rw [qmR (by omega) true false];exact hn) hd⟩
          · simp only [Classical.not_forall] at hd
            obtain ⟨d,hd1,hd2⟩:=hd
            have:=hdep k _ ho d hd1
            exact ih d this zO (by simpa using hd2)
      exact key j0 hj0 hn0
    intro fuel
    induction fuel with
    | zero=>
      intro listed a w τ hsz hhi hcl hf hτ hc
      have hcount:∀ j,j<l.toArray.size→listed.getD j false=true:=by
        intro j hj
        have hle:=List.length_filter_le (fun j=>listed.getD j false) (List.range l.toArray.size)
        rw [List.length_range] at hle
        have heq:((List.range l.toArray.size).filter fun j=>listed.getD j false).length=(List.range l.toArray.size).length:=by rw [List.length_range];omega
        have:=List.length_filter_eq_length_iff.1 heq j (by simpa using hj)
        exact this
      exact hall 0 listed a w τ hsz hhi (fun j hj=>hcount j zO) (by
        by_cases h:l2.length=0
        · omega
        · have:=hhi l1.length (Nat.le_refl _) (by omega)
          rw [hcount l1.length (by omega)] at this;cases this) hτ hc
    | succ fuel ih=>
      intro listed a w τ hsz hhi hcl hf hτ hc
      by_cases hdone:∀ j,j<l1.length→listed.getD j false=true
      · refine hall (fuel+1) listed a w τ hsz hhi hdone ?_ hτ hc
        have h1:((List.range l.toArray.size).filter fun j=>listed.getD j false).length≤l1.length:=by
          have h2:∀ (n:Nat),((List.range (l1.length+n)).filter fun j=>decide (j<l1.length)).length=l1.length:=by
            intro n
            induction n with
            | zero=>rw [List.filter_eq_self.2 (by simp),List.length_range];omega
            | succ n ihn=>rw [← Nat.add_assoc,List.range_succ,List.filter_append,List.length_append,ihn];simp
          have h3:((List.range l.toArray.size).filter fun j=>listed.getD j false)=((List.range l.toArray.size).filter fun j=>decide (j<l1.length)):=by
            refine List.filter_congr fun j hj=>?_
            have hj':j<l.toArray.size:=by simpa using hj
            by_cases hlt:j<l1.length
            · rw [hdone j hlt];simp [hlt]
            · rw [hhi j (by omega) hj'];simp [hlt]
          rw [h3,hlsz,h2]
          exact Nat.le_refl _
        omega
      · simp only [Classical.not_forall] at hdone
        obtain ⟨j0,hj0,hn0⟩:=hdone
        obtain ⟨jr,hjr,hjready⟩:=hleast listed hsz ⟨j0,hj0,by simpa using hn0⟩
        refine ⟨fun he=>(by rw [he] at hjready;simp at hjready),fun i hi=>?_⟩
        obtain ⟨hilt,hnl,o,ho,hdl⟩:=qlZ hi
        have hi1:i<l1.length:=by
          by_cases h:i<l1.length
          · exact h
          · exfalso
            have h1:=(List.all_eq_true.1 hS) i (by simpa using hilt)
            simp only [Bool.or_eq_true,decide_eq_true_eq] at h1
            rcases h1 with h1|h1
            · exact h h1
            · have h2:=(List.all_eq_true.1 h1) j0 (by simp;omega)
              have:=qg5 (fun j oj=>hcl j oj) _ i j0 o ho hdl h2
              exact hn0 this
        have ho1:l1[i]?=some o:=by rw [← hop i hi1];exact ho
        obtain ⟨o',m,hoo,hmi,hdN,hms,_⟩:=hget i hi1
        rw [ho1] at hoo;simp only [Option.some.injEq] at hoo;subst hoo
        have hnl':¬ (listed.getD i false=true):=by rw [qmR (by omega) false true,hnl];simp
        obtain ⟨g1,g2,g3,g4⟩:=hgo i o m (fun j=>listed.getD j false=true) τ ho1 hmi hnl' hdl hcl hτ
        have hlast:∀ a w,C c N (τ.add o.dst m.v m.new) a w→wpAny P .any l.toArray (wQ c N Q) fuel (listed.setIfInBounds i true) a w:=by
          intro a w hc'
          have hisz:i<listed.size:=by omega
          refine ih _ a w _ (by simp [hsz]) (fun j h1 h2=>by rw [qd7 false hisz,if_neg zO];exact hhi j h1 h2) (fun j oj hoj hlj d hd=>?_) ?_ ((hτ.add ho hmi (fun j hj hlt hne d hd=>(hC1 i o ho1).2.2 d hd j zO hne) (fun j m' hj hm' hne k hk hin=>by
            rcases (hN1 i o m ho1 hmi).2 k hk j m' hm' hne hin with ⟨h,_⟩|⟨_,o',ho',h⟩
            · exact h
            · exact absurd (hcl j o' ho' hj i h) hnl')).congr fun j hj=>?_) hc'
          · rw [qd7 false hisz] at hlj ⊢
            by_cases hji:j=i
            · subst hji
              rw [ho] at hoj;simp only [Option.some.injEq] at hoj;subst hoj
              split
              · rfl
              · exact hdl d hd
            · rw [if_neg hji] at hlj
              split
              · rfl
              · exact hcl j oj hoj hlj d hd
          · have hinc:((List.range l.toArray.size).filter fun j=>listed.getD j false).length+1≤((List.range l.toArray.size).filter fun j=>(listed.setIfInBounds i true).getD j false).length:=by
              have h1:∀ (n:Nat),((List.range n).filter fun j=>(listed.setIfInBounds i true).getD j false).length=((List.range n).filter fun j=>listed.getD j false).length+(if i<n then 1 else 0):=by
                intro n
                induction n with
                | zero=>simp
                | succ n ihn=>
                  rw [List.range_succ,List.filter_append,List.filter_append,List.length_append,List.length_append,ihn]
                  by_cases hni:n=i
                  · subst hni
                    have h0:listed.getD n false=false:=Bool.eq_false_iff.2 hnl'
                    have h2:(listed.setIfInBounds n true).getD n false=true:=by rw [qd7 false hisz,if_pos rfl]
                    simp only [List.filter_cons,h2,h0,List.filter_nil]
                    simp
                  · have:(listed.setIfInBounds i true).getD n false=listed.getD n false:=by rw [qd7 false hisz,if_neg hni]
                    simp only [List.filter_cons,this,List.filter_nil]
                    by_cases hin:i<n
                    · simp [hin,show i<n+1 from by omega];omega
                    · simp [hin,show ¬ i<n+1 from by omega]
              rw [h1,if_pos hilt]
              exact Nat.le_refl _
            omega
          · rw [qd7 false hisz]
            by_cases hji:j=i
            · simp [hji]
            · simp [hji]
        unfold wpOp
        simp only [ho]
        obtain ⟨ρ,S,hcc⟩:=hc
        cases hms with
        | run hg hst=>
          rw [if_pos (by simp [Region.wanted,hg])]
          exact .inl (Oper.wp_weaken (fun a' w' ⟨τ',h1,h2⟩=>hlast a' w' (h2▸h1)) (hst hdN τ g1 g2 (fun p hp=>g3 p hp (by simp)) a w ⟨ρ,S,hcc⟩))
        | want hg hj ht htN hst=>
          have hy:=qlG (ops:=l.toArray) hcc hj ((g4 _ _ _ hg hj).trans ht) htN
          rw [if_pos (by simp [Region.wanted,hg,hy])]
          exact .inl (Oper.wp_weaken (fun a' w' ⟨τ',h1,h2⟩=>hlast a' w' (h2▸h1)) (hst hdN τ g1 g2 (fun p hp=>g3 p hp (by simp)) a w ⟨ρ,S,hcc⟩))
        | upd hg hst=>
          rw [if_pos (by simp [Region.wanted,hg])]
          exact .inl (Oper.wp_weaken (fun a' w' ⟨τ',h1,h2⟩=>hlast a' w' (h2▸h1)) (hst hdN τ g1 g2 g3 a w ⟨ρ,S,hcc⟩))
        | skip hg hj ht hb htN=>
          have hy:=qlG (ops:=l.toArray) hcc hj ((g4 _ _ _ hg hj).trans ht) htN
          rw [if_neg (by simp only [Region.wanted,hg,hy];simpa using hb)]
          refine hlast _ _ ⟨ρ,S,?_⟩
          have:=hcc.put (dst:=o.dst) (v:=.imm undef) (x:=undef) hdN (by simp [Rep])
          cases hdst:o.dst<;>simpa [St.put,St.add,hdst] using this
        | skipu hg hj ht htN=>
          have hy:=qmg (ops:=l.toArray) hcc hj ((g4 _ _ _ hg hj).trans ht) htN
          rw [if_neg (by simp only [Region.wanted,hg,hy];simp)]
          refine hlast _ _ ⟨ρ,S,?_⟩
          have:=hcc.put (dst:=o.dst) (v:=.imm undef) (x:=undef) hdN (by simp [Rep])
          cases hdst:o.dst<;>simpa [St.put,St.add,hdst] using this
  intro a w hc
  refine wp_region_any hm (phase _ _ a _ σ (by simp) (fun j h1 h2=>?_) (fun j o ho hlj=>?_) (by simp) ?_ (C_drawn hc))
  · rw [Array.getD_eq_getD_getElem?];simp only [Array.getElem?_replicate];split<;>rfl
  · rw [Array.getD_eq_getD_getElem?] at hlj;simp only [Array.getElem?_replicate] at hlj;split at hlj<;>simp at hlj
  · refine ⟨fun t=>.inr ⟨fun j hj=>?_,rfl⟩,fun k=>.inr ⟨fun j m hj=>?_,rfl⟩⟩<;>(dsimp only at hj;rw [Array.getD_eq_getD_getElem?] at hj;simp only [Array.getElem?_replicate] at hj;split at hj<;>simp at hj)
theorem qsE (n:Nat){ms:List MS}(hm:P.follows .mixedOrders=true)(hn:Nat.ble n l.length=true)(hC:chkO l.toArray n=true)(hE:chkE l.toArray=true)(hS:chkS l.toArray n=true)
  (hr:MRun P c N l.toArray (l.take n) σ ms σ') (hN:chkN l.toArray ms=true) (hnew:∀ m∈ms,∀ p∈m.new,p.1∉m.old→ok σ.O p.1=none) (K:awps P c N l.toArray (l.drop n) Q σ'):awp P c N (.region id l.toArray true) Q σ:=by
 have hl:(l.take n).length=n:=by rw [List.length_take];exact Nat.min_eq_left (Nat.le_of_ble_eq_true hn)
 exact awp_draw hm (List.take_append_drop n l).symm (by rw [hl];exact hC) hE (by rw [hl];exact hS) hr hN hnew K
end
end Go.Proofs.YtpgceiijoedppaaGreat
namespace Go.Proofs.YtpgceiijoedppaaGreat
open Go
variable {N d l l0 n:Nat}{P:Program}{S:Bool→Nat→Prop}{b f m:Bool}{c:Ctx}{ds:List D}{e:Exit}{g:FuncId}{ops:Array Oper}{rest:List Oper}{rs:List ResultVar}{t:TypeId}{tys:Array TypeId}{w:World}{x:Operand}{xs:List Operand}{π:Nat→Nat}{ρ:Nat→Value}
def swp (a b n:Nat):Nat:=bif Nat.beq n a then b else bif Nat.beq n b then a else n
theorem beq_ite {α:Type}(n a:Nat)(x y:α):(bif Nat.beq n a then x else y)=if n=a then x else y:=by
 by_cases h:n=a
 ·subst h;simp
 ·rw [Nat.beq_eq_false h,if_neg h];rfl
theorem qgn (a b n:Nat):swp a b (swp a b n)=n:=by
 simp only [swp,beq_ite]
 by_cases h1:n=a<;>by_cases h2:n=b<;>simp_all
mutual
def AV.rn (π:Nat→Nat):AV→AV
 | .any=>.any
 | .imm v=>.imm v
 | .dat f k es=>.dat f k es
 | .agg cs=>.agg (AV.rns π cs)
 | .ptr l off=>.ptr (π l) off
 | .elp f ds=>.elp f ds
 | .row l=>.row (π l)
 | .fn f cs=>.fn f (AV.rns π cs)
 | .map l=>.map (π l)
 | .tup cs=>.tup (AV.rns π cs)
 | .vw l off n c=>.vw (π l) off n c
def AV.rns (π:Nat→Nat):List AV→List AV
 | []=>[]
 | v::vs=>AV.rn π v::AV.rns π vs
end
def Ob.rn (π:Nat→Nat):Ob→Ob
 | .box cs=>.box (AV.rns π cs)
 | .row e k cs=>.row e k (AV.rns π cs)
 | .rowd e k f es=>.rowd e k f es
 | .mp P k ks=>.mp P k ks
 | .dead=>.dead
 | .arr e k f es=>.arr e k f es
 | .mx it P k kvs cur=>.mx it P k kvs cur
def rnO (π:Nat→Nat):List (Nat×Ob)→List (Nat×Ob)
 | []=>[]
 | (l,o)::O=>(π l,o.rn π)::rnO π O
def rnT (π:Nat→Nat):List (Nat×AV)→List (Nat×AV)
 | []=>[]
 | (t,v)::T=>(t,v.rn π)::rnT π T
theorem qo4 (π:Nat→Nat)(f:Bool):∀ ds:List D,AV.rns π (lift f ds)=lift f ds
 | []=>rfl
 | d::ds=>by
   simp only [lift,List.map_cons,AV.rns]
   have:=qo4 π f ds
   simp only [lift] at this
   rw [this]
   cases d<;>rfl
theorem lk_rnT (π:Nat→Nat):∀ (T:List (Nat×AV)) (t:Nat),lk (rnT π T) t=(lk T t).map (AV.rn π)
 | [],t=>rfl
 | (s,v)::T,t=>by
   simp only [rnT,qcm]
   split
   ·rfl
   ·exact lk_rnT π T t
theorem qp2 {π:Nat→Nat}(hπ:∀ n,π (π n)=n):∀ (O:List (Nat×Ob)) (l:Nat),ok (rnO π O) l=(ok O (π l)).map (Ob.rn π)
 | [],l=>rfl
 | (s,v)::O,l=>by
   simp only [rnO,qa0]
   by_cases h:s=π l
   ·subst h;simp [hπ]
   ·have:π s≠l:=fun e=>h (by rw [← e,hπ])
    simp only [h,this,if_false]
    exact qp2 hπ O l
theorem qsJ (π:Nat→Nat):∀ (i:Nat) (az:List AV),argT i (AV.rns π az)=rnT π (argT i az)
 | _,[]=>rfl
 | i,a::az=>by simp only [AV.rns,argT,rnT,qsJ π (i+1) az]
theorem qlQ (π:Nat→Nat):∀ az:List AV,(AV.rns π az).length=az.length
 | []=>rfl
 | a::az=>by simp [AV.rns,qlQ π az]
mutual
theorem Rep.rn {w:World}{ρ:Nat→Value}{S:Bool→Nat→Prop}{U:Nat→Prop}{π:Nat→Nat}(hπ:∀ n,π (π n)=n):∀ (v:AV) (x:Value),Rep w ρ S U v x→Rep w (fun l=>ρ (π l)) S (fun l=>U (π l)) (v.rn π) x
 | .any,x,_=>by simp [AV.rn,Rep]
 | .imm v,x,h=>by simpa [AV.rn,Rep] using h
 | .dat f k es,x,h=>by simpa only [AV.rn,Rep] using h
 | .agg cs,x,h=>by
   simp only [AV.rn,Rep] at h ⊢
   obtain ⟨xs,hx,h1,h⟩:=h
   exact ⟨xs,hx,h1,RepL.rn hπ cs xs h⟩
 | .ptr l off,x,h=>by
   simp only [AV.rn,Rep,hπ] at h ⊢
   exact h
 | .elp f ds,x,h=>by simpa only [AV.rn,Rep] using h
 | .row l,x,h=>by
   simp only [AV.rn,Rep,hπ] at h ⊢
   exact h
 | .fn f cs,x,h=>by
   simp only [AV.rn,Rep] at h ⊢
   obtain ⟨xs,hx,h⟩:=h
   exact ⟨xs,hx,RepL.rn hπ cs xs h⟩
 | .map l,x,h=>by
   simp only [AV.rn,Rep,hπ] at h ⊢
   exact h
 | .tup cs,x,h=>by
   simp only [AV.rn,Rep] at h ⊢
   obtain ⟨xs,hx,h⟩:=h
   exact ⟨xs,hx,RepL.rn hπ cs xs h⟩
 | .vw l off n c,x,h=>by
   simp only [AV.rn,Rep,hπ] at h ⊢
   exact h
theorem RepL.rn {w:World}{ρ:Nat→Value}{S:Bool→Nat→Prop}{U:Nat→Prop}{π:Nat→Nat}(hπ:∀ n,π (π n)=n):∀ (vs:List AV) (xs:List Value),RepL w ρ S U vs xs→RepL w (fun l=>ρ (π l)) S (fun l=>U (π l)) (AV.rns π vs) xs
 | [],xs,h=>by simpa [AV.rns,RepL] using h
 | v::vs,xs,h=>by
   simp only [AV.rns,RepL] at h ⊢
   obtain ⟨y,ys,hx,h1,h2⟩:=h
   exact ⟨y,ys,hx,Rep.rn hπ v y h1,RepL.rn hπ vs ys h2⟩
end
theorem ObOk.rn {U:Nat→Prop}(hπ:∀ n,π (π n)=n){o:Ob}(h:ObOk w ρ S U l o):ObOk w (fun l=>ρ (π l)) S (fun l=>U (π l)) (π l) (o.rn π):=by
 cases o with
 | box cs=>
   obtain ⟨b,ty,xs,h1,h2,h3,h4⟩:=h
   exact ⟨b,ty,xs,by simpa only [hπ] using h1,h2,h3,RepL.rn hπ _ _ h4⟩
 | row e k cs=>
   obtain ⟨n,xs,h1,h2,h3⟩:=h
   exact ⟨n,xs,by simpa only [hπ] using h1,h2,RepL.rn hπ _ _ h3⟩
 | rowd e k f es=>
   obtain ⟨h0,xs,h1,h2,h3⟩:=h
   have:=RepL.rn hπ _ _ h3
   rw [qo4] at this
   exact ⟨h0,xs,by simpa only [hπ] using h1,h2,this⟩
 | mp P k ks=>
   obtain ⟨r,h1,h2⟩:=h
   exact ⟨r,by simpa only [hπ] using h1,h2⟩
 | dead=>trivial
 | arr e k f es=>
   obtain ⟨b,xs,h1,h2,h3,h4,h5⟩:=h
   refine ⟨b,xs,by simpa only [hπ] using h1,h2,h3,h4,fun i d hd=>⟨(h5 i d hd).1,?_,(h5 i d hd).2.2⟩⟩
   have:=RepL.rn hπ _ _ (h5 i d hd).2.1
   rw [qo4] at this
   exact this
 | mx it P k kvs cur=>
   simp only [Ob.rn,ObOk] at h ⊢
   simpa only [hπ] using h
theorem qkx (o:Ob):(o.rn π).live↔o.live:=by cases o<;>exact Iff.rfl
theorem Conc.rn {T:List (Nat×AV)}{O:List (Nat×Ob)}{a:Act}(hπ:∀ n,π (π n)=n)(h:Conc c N ⟨T,O⟩ a w ρ S):
  Conc { c with ρ0:=fun l=>c.ρ0 (π l),L:=fun l=>c.L (π l) } N ⟨rnT π T,rnO π O⟩ a w (fun l=>ρ (π l)) S:=by
 have hok:∀ l ob,ok (rnO π O) l=some ob→∃ ob',ok O (π l)=some ob'∧ob=ob'.rn π:=fun l ob hl=>by
  rw [qp2 hπ] at hl
  obtain ⟨ob',h1,h2⟩:=Option.map_eq_some_iff.1 hl
  exact ⟨ob',h1,h2.symm⟩
 have hU:∀ l,St.U ⟨T,O⟩ (π l)↔St.U ⟨rnT π T,rnO π O⟩ l:=fun l=>by simp only [St.U,qp2 hπ,Option.isSome_map]
 have hU':(fun l=>St.U ⟨T,O⟩ (π l))=St.U ⟨rnT π T,rnO π O⟩:=funext fun l=>propext (hU l)
 refine ⟨h.tm,h.df,fun t v ht=>?_,fun l ob hl=>?_,fun l l' ob ob' b h1 h2 h3 h4 h5 h6=>?_,fun l ob b f h1 h2 h3=>?_,fun l ob b h1 h2 h3=>?_,fun l ob b h1 h2 h3=>?_,h.SS,h.Sb,h.Sn,h.So,fun l hl=>?_,?_⟩
 ·rw [show (St.mk (rnT π T) (rnO π O)).T=rnT π T from rfl,lk_rnT] at ht
  obtain ⟨u,hu,rfl⟩:=Option.map_eq_some_iff.1 ht
  rw [← hU']
  exact Rep.rn hπ u _ (h.T t u hu)
 ·obtain ⟨ob',h1,rfl⟩:=hok l ob hl
  rw [← hU']
  have:=ObOk.rn hπ (h.O (π l) ob' h1)
  rw [hπ] at this
  exact this
 ·obtain ⟨o1,k1,rfl⟩:=hok l ob h1
  obtain ⟨o2,k2,rfl⟩:=hok l' ob' h2
  have:=h.dj (π l) (π l') o1 o2 b k1 k2 ((qkx o1).1 h3) ((qkx o2).1 h4) h5 h6
  rw [← hπ l,← hπ l',this]
 ·obtain ⟨o1,k1,rfl⟩:=hok l ob h1
  exact h.dS (π l) o1 b f k1 ((qkx o1).1 h2) h3
 ·obtain ⟨o1,k1,rfl⟩:=hok l ob h1
  exact h.wr (π l) o1 b k1 ((qkx o1).1 h2) h3
 ·obtain ⟨o1,k1,rfl⟩:=hok l ob h1
  exact h.lt (π l) o1 b k1 ((qkx o1).1 h2) h3
 ·obtain ⟨h1,h2⟩:=h.lo (π l) hl
  exact ⟨(hU l).1 h1,h2⟩
 ·exact ⟨h.fm.toFar0,h.fm.dr,h.fm.vq,h.fm.vs,h.fm.sp,h.fm.uf⟩
mutual
theorem qrO {π:Nat→Nat}(hπ:∀ n,π (π n)=n):∀ v:AV,(v.rn π).rn π=v
 | .any=>rfl
 | .imm v=>rfl
 | .dat f k es=>rfl
 | .agg cs=>by simp only [AV.rn,qh5 hπ cs]
 | .ptr l off=>by simp only [AV.rn,hπ]
 | .elp f ds=>rfl
 | .row l=>by simp only [AV.rn,hπ]
 | .fn f cs=>by simp only [AV.rn,qh5 hπ cs]
 | .map l=>by simp only [AV.rn,hπ]
 | .tup cs=>by simp only [AV.rn,qh5 hπ cs]
 | .vw l off n c=>by simp only [AV.rn,hπ]
theorem qh5 {π:Nat→Nat}(hπ:∀ n,π (π n)=n):∀ vs:List AV,AV.rns π (AV.rns π vs)=vs
 | []=>rfl
 | v::vs=>by simp only [AV.rns,qrO hπ v,qh5 hπ vs]
end
theorem orn_orn (hπ:∀ n,π (π n)=n)(o:Ob):(o.rn π).rn π=o:=by
 cases o with
 | box cs=>simp only [Ob.rn,qh5 hπ]
 | row e k cs=>simp only [Ob.rn,qh5 hπ]
 | rowd e k f es=>rfl
 | mp P k ks=>rfl
 | dead=>rfl
 | arr e k f es=>rfl
 | mx it P k kvs cur=>rfl
theorem qjd {π:Nat→Nat}(hπ:∀ n,π (π n)=n):∀ O:List (Nat×Ob),rnO π (rnO π O)=O
 | []=>rfl
 | (l,o)::O=>by simp only [rnO,hπ,orn_orn hπ,qjd hπ O]
theorem AC_rn {f:FuncId}{args:List AV}{O:List (Nat×Ob)}{Post:AV→List (Nat×Ob)→Prop}(a b:Nat)(h:ACx m P f args O Post):
  ACx m P f (AV.rns (swp a b) args) (rnO (swp a b) O) (fun r O'=>Post (r.rn (swp a b)) (rnO (swp a b) O')):=by
 have hπ:=qgn a b
 rintro c w vs ρ S h0 hL hS hD hc
 have h1:=Conc.rn hπ hc
 rw [← qsJ,qh5 hπ,qjd hπ,qlQ] at h1
 have hin:∀ l,inD (rnO (swp a b) O) l=inD O (swp a b l):=fun l=>by simp only [inD,qp2 hπ,Option.isSome_map]
 refine (h { c with ρ0:=fun l=>c.ρ0 (swp a b l),L:=fun l=>c.L (swp a b l) } w vs _ S h0 (fun l=>by rw [hL,hin,hπ]) hS hD h1).mono ?_
 rintro e w' ⟨v,r,O',rfl,hP,ρ',S',h'⟩
 have h2:=Conc.rn hπ h'
 simp only [hπ] at h2
 refine ⟨v,r.rn (swp a b),rnO (swp a b) O',rfl,by dsimp only;rw [qrO hπ,qjd hπ];exact hP,_,S',h2⟩
theorem qaw {T:List (Nat×AV)}{t:Nat}{v v':AV}(h:lk T t=some v)(e:v=v'):lk T t=some v':=by rw [h,e]
theorem qU {T:List (Nat×Ob)}{t:Nat}{v v':Ob}(h:ok T t=some v)(e:v=v'):ok T t=some v':=by rw [h,e]
theorem noL (h:∀ l,c.L l↔inD [] l=true):∀ l,¬ c.L l:=fun l hl=>by have:=(h l).1 hl;simp [inD,ok] at this
theorem noL' (h:∀ l,¬ c.L l)(O:List (Nat×Ob)):∀ l,c.L l→inD O l=true:=fun l hl=>absurd hl (h l)
theorem oneL {ob:Ob}(h:∀ l,c.L l↔inD [(l0,ob)] l=true){O:List (Nat×Ob)}(h0:inD O l0=true):∀ l,c.L l→inD O l=true:=fun l hl=>by
 have:=(h l).1 hl
 simp only [inD,qa0] at this
 split at this
 ·rename_i e;rw [← e];exact h0
 ·simp [ok] at this
theorem qqW {ob:Ob}(h:∀ l,c.L l↔inD [(l0,ob)] l=true){m:Nat}(h0:Nat.beq l0 m=false):¬ c.L m:=fun hl=>by
 have:=(h m).1 hl
 simp only [inD,qa0] at this
 split at this
 ·rename_i e;subst e;simp at h0
 ·simp [ok] at this
section
variable {P:Program}{c:Ctx}{N:Nat}{Q:Exit→St→Prop}{σ:St}{o:Oper}
theorem qE {T:List (Nat×AV)}{O:List (Nat×Ob)}(t:Nat)(h:lk T t=some (.imm (.bool b)))(ht:b=true→awps P c N ops rest Q ⟨(t,.imm (.bool true))::T,O⟩)(hf:b=false→awps P c N ops rest Q ⟨(t,.imm (.bool false))::T,O⟩):awps P c N ops rest Q ⟨T,O⟩:=by
 have key:∀ b',b=b'→Sub c N ⟨T,O⟩ ⟨(t,.imm (.bool b'))::T,O⟩:=fun b' e=>by
  subst e
  refine qkm (fun s=>?_) (fun _=>rfl)
  simp only [qcm]
  split
  ·rename_i e;rw [← e,h]
  ·rfl
 cases hb:b with
 | true=>exact qab (key true hb) (ht hb)
 | false=>exact qab (key false hb) (hf hb)
theorem awps_g0 {T:List (Nat×AV)}{O:List (Nat×Ob)}{need:List Nat}{v:AV}{j t:Nat}(hg:o.guard=some (j,b))(hj:(ops[j]?).bind (·.dst)=some t)(ht:lk T t=some (.imm (.bool b)))(htN:t<N)(hd:o.dst=some d)(hN:d<N)
  (h:Stp P c N o ⟨T,O⟩ need v []) (K:awps P c N ops rest Q ⟨(d,v)::T,O⟩):awps P c N ops (o::rest) Q ⟨T,O⟩:=by
 refine qor hg hj ht htN fun a w hc=>Oper.wp_mono ?_ (h (by intro e he;rw [hd] at he;cases he;exact hN) ⟨T,O⟩ (fun _ _ _ h=>h) (fun _ _ _ h=>h) (by simp) a w hc)
 rintro a w ⟨σ2,h2,rfl⟩
 refine ⟨_,h2,?_⟩
 simpa [St.add,hd] using K
theorem awps_gs {T:List (Nat×AV)}{O:List (Nat×Ob)}{j t:Nat}{b':Bool}(hg:o.guard=some (j,b))(hj:(ops[j]?).bind (·.dst)=some t)(ht:lk T t=some (.imm (.bool b')))(hb:(b'==b)=false)(htN:t<N)(hd:o.dst=some d)(hN:d<N)
  (K:awps P c N ops rest Q ⟨(d,.imm undef)::T,O⟩):awps P c N ops (o::rest) Q ⟨T,O⟩:=by
 refine qsD hg hj ht (by simpa using hb) (by intro e he;rw [hd] at he;cases he;exact hN) htN ?_
 simpa [St.put,hd] using K
theorem qa8 {T:List (Nat×AV)}{O:List (Nat×Ob)}{j t:Nat}(hg:o.guard=some (j,b))(hj:(ops[j]?).bind (·.dst)=some t)(ht:lk T t=some (.imm undef))(htN:t<N)(hd:o.dst=some d)(hN:d<N)
  (K:awps P c N ops rest Q ⟨(d,.imm undef)::T,O⟩):awps P c N ops (o::rest) Q ⟨T,O⟩:=by
 refine qrh hg hj ht (by intro e he;rw [hd] at he;cases he;exact hN) htN ?_
 simpa [St.put,hd] using K
theorem qT {y:Operand}{off:Nat}{ob ob':Ob}{v:AV}{vs:List AV}{T:List (Nat×AV)}{O:List (Nat×Ob)}(hg:o.guard=none)(ho:o.op=.store t x y)(hd:o.dst=none)(ht:tfB P t b n=true)(hx:ev T x=some (.ptr l off))(hl:ok O l=some ob)
  (hy:ev T y=some v) (hv:v.cellsOf=some vs) (hn:vs.length=n) (hoff:Nat.ble (off+n) ob.cells.length=true) (h0:Nat.ble 1 n=true) (hob:(match ob with|.rowd _ _ _ _=>false|_=>true)=true) (hw:ob.with (qau ob.cells off vs)=ob')
  (K:awps P c N ops rest Q ⟨T,(l,ob')::O⟩):awps P c N ops (o::rest) Q ⟨T,O⟩:=by
 subst hw
 refine qcF hg fun a w hc=>Oper.wp_mono ?_ (qot ho hd ht hx hl hy hv hn (Nat.le_of_ble_eq_true hoff) (Nat.le_of_ble_eq_true h0) (by rintro e k f es rfl;cases hob) a w hc)
 rintro a w ⟨σ2,h2,rfl⟩
 exact ⟨_,h2,K⟩
theorem qi {off:Nat}{ob:Ob}{v:AV}(ho:o.op=.load t x)(ht:tfB P t b n=true)(hx:ev σ.T x=some (.ptr l off))(hl:ok σ.O l=some ob)
  (hn:Nat.ble (off+n) ob.cells.length=true) (h0:Nat.ble 1 n=true) (hv:mkA b n ((ob.cells.drop off).take n)=some v):Stp P c N o σ [l] v []:=
 qjt ho ht hx hl (Nat.le_of_ble_eq_true hn) (Nat.le_of_ble_eq_true h0) hv
theorem qF {cs:List AV}(ho:o.op=.load t x)(ht:tfB P t true n=true)(hx:ev σ.T x=some (.ptr l 0))(hl:ok σ.O l=some (.box cs))(hn:cs.length=n)(h0:Nat.ble 1 n=true):Stp P c N o σ [l] (.agg cs) []:=
 qjt ho ht hx hl (by simp [Ob.cells];omega) (Nat.le_of_ble_eq_true h0) (by simp only [Ob.cells,List.drop_zero,mkA,if_true];rw [List.take_of_length_le (by omega),if_pos hn])
theorem qD (ho:o.op=.load t x)(ht:tfB P t true n=true)(hx:ev σ.T x=some (.elp f ds))(hn:ds.length=n):Stp P c N o σ [] (.agg (lift f ds)) []:=
 qg1 ho ht hx (by omega) (by simp only [mkA,if_true];rw [List.take_of_length_le (by omega),if_pos (by simp [lift,hn])])
theorem qW {d:D}(ho:o.op=.load t x)(ht:tfB P t false 1=true)(hx:ev σ.T x=some (.elp f (d::ds))):Stp P c N o σ [] (d.av f) []:=
 qg1 ho ht hx (by simp) (by simp [mkA,lift])
theorem qgo {v:AV}(ho:o.op=.load t x)(ht:tfB P t b n=true)(hx:ev σ.T x=some (.elp f ds))(hn:Nat.ble n ds.length=true)(hv:mkA b n (lift f (ds.take n))=some v):Stp P c N o σ [] v []:=
 qg1 ho ht hx (Nat.le_of_ble_eq_true hn) hv
theorem qH [DOk m c]{caps avs args:List AV}{T:List (Nat×AV)}{O:List (Nat×Ob)}{v:AV}(B:Bool)(hg:o.guard=none)
  (ho:o.op=.call { callee:=.value x,args:=xs.toArray,argTypes:=tys }) (hd:o.dst=some d) (hN:d<N) (hen:qY P g)
  (hx:ev T x=some (.fn g caps)) (hxs:xs.map (ev T)=avs.map some) (hAC:ACx m P g args [] (fun r O'=>r=v∧O'=[])) (hcv:AV.cvs B O (inD []) (avs++caps)=args) (hq:(!B || v.allQ (fun f=>f))=true)
  (K:awps P c N ops rest Q ⟨(d,v)::T,O⟩):awps P c N ops (o::rest) Q ⟨T,O⟩:=by
 refine qcF hg (qhn B ho (by intro e he;rw [hd] at he;cases he;exact hN) hen hx hxs hcv qle.nil hAC ?_ ?_ ?_)
 ·rintro r O' ⟨_,rfl⟩ l hl;simp [inD,ok] at hl
 ·rintro rfl r O' ⟨rfl,rfl⟩;exact ⟨by simpa using hq,rfl⟩
 ·rintro r O' ⟨rfl,rfl⟩;simpa [St.put,hd] using K
theorem qai [DOk m c]{caps avs args:List AV}{T:List (Nat×AV)}{O:List (Nat×Ob)}{v:AV}(B:Bool) 
  (ho:o.op=.call { callee:=.value x,args:=xs.toArray,argTypes:=tys }) (hen:qY P g)
  (hx:ev T x=some (.fn g caps)) (hxs:xs.map (ev T)=avs.map some) (hAC:ACx m P g args [] (fun r O'=>r=v∧O'=[])) (hcv:∀ O',AV.cvs B O' (inD []) (avs++caps)=args) (hq:(!B || v.allQ (fun f=>f))=true):Stp P c N o ⟨T,O⟩ [] v []:=by
 rintro hdN σ' h1 h2 _
 have hxs':xs.map (ev σ'.T)=avs.map some:=by
  rw [← hxs]
  refine List.map_congr_left fun y hy=>?_
  have:∀ u,ev T y=some u→ev σ'.T y=some u:=h1 y (by simp [ho,Op.operands,Call.operands,hy])
  have hsome:∃ u,ev T y=some u:=by
   have:ev T y∈avs.map some:=by rw [← hxs];exact List.mem_map.2 ⟨y,hy,rfl⟩
   obtain ⟨u,_,hu⟩:=List.mem_map.1 this
   exact ⟨u,hu.symm⟩
  obtain ⟨u,hu⟩:=hsome
  rw [hu,this u hu]
 have hx':ev σ'.T x=some (.fn g caps):=h1 x (by simp [ho,Op.operands,Call.operands]) _ hx
 refine qhn (T:=σ'.T) (O:=σ'.O) B ho hdN hen hx' hxs' (hcv σ'.O) qle.nil hAC ?_ ?_ ?_
 ·rintro r O' ⟨_,rfl⟩ l hl;simp [inD,ok] at hl
 ·rintro rfl r O' ⟨rfl,rfl⟩;exact ⟨by simpa using hq,rfl⟩
 ·rintro r O' ⟨rfl,rfl⟩;cases o.dst<;>rfl
theorem qag [DOk m c]{caps avs args:List AV}{T:List (Nat×AV)}{O Oin:List (Nat×Ob)}{Post:AV→List (Nat×Ob)→Prop}(B:Bool)(hg:o.guard=none)
  (ho:o.op=.call { callee:=.value x,args:=xs.toArray,argTypes:=tys }) (hd:o.dst=some d) (hN:d<N) (hen:qY P g)
  (hx:ev T x=some (.fn g caps)) (hxs:xs.map (ev T)=avs.map some) (hAC:ACx m P g args Oin Post) (hcv:AV.cvs B O (inD Oin) (avs++caps)=args) (hOin:qle B O Oin)
  (hfr:∀ r O',Post r O'→∀ l,inD O' l=true→inD Oin l=true∨inD O l=false)
  (hq:B=true→∀ r O',Post r O'→r.allQ (fun f=>f)=true∧qov (fun f=>f) O'=true)
  (K:∀ r O',Post r O'→awps P c N ops rest Q ⟨(d,r)::T,O'++O⟩):awps P c N ops (o::rest) Q ⟨T,O⟩:=by
 refine qcF hg (qhn B ho (by intro e he;rw [hd] at he;cases he;exact hN) hen hx hxs hcv hOin hAC hfr hq ?_)
 intro r O' hP;simpa [St.put,hd] using K r O' hP
theorem qg {vs:List AV}{t:Nat}{v:AV}(h:lk σ.T t=some v)(r:qiu P σ rs=some vs):qiu P σ (.tmp t::rs)=some (v::vs):=by
 simp [qiu,resA,resT,h,r]
theorem qaS {vs:List AV}{a:Nat}{ty:TypeId}{u w:AV}{cs:List AV}(ht:tfB P ty true n=true)(h:lk σ.T a=some (.ptr l 0))(hl:ok σ.O l=some (.box (u::w::cs)))(hn:(u::w::cs).length=n)(r:qiu P σ rs=some vs):qiu P σ (.cell a ty::rs)=some (.agg (u::w::cs)::vs):=by
 subst hn
 have:((u::w::cs).length==1)=false:=by simp
 have ht':tfB P ty true (cs.length+1+1)=true:=by simpa using ht
 simp [qiu,resA,resT,h,hl,r,ht']
theorem qh:qiu P σ []=some []:=rfl
theorem ret0 {Post:AV→List (Nat×Ob)→Prop}{vs:List AV}(hL:∀ l,¬ c.L l)(he:e=.ret∨e=.normal)(hr:qiu P σ rs=some vs)(hv:AV.allLs (inD []) vs=true)(hP:Post (resV vs) []):retQ P c N rs Post e σ:=
 ⟨he,σ,vs,[],fun _ _ h=>h,hr,SubO.nil,hv,rfl,fun l hl=>absurd hl (hL l),hP⟩
theorem retS {Post:AV→List (Nat×Ob)→Prop}{σ':St}(hs:Sub c N σ σ')(h:retQ P c N rs Post e σ'):retQ P c N rs Post e σ:=by
 obtain ⟨he,σ2,vs,O',h1,h2⟩:=h
 exact ⟨he,σ2,vs,O',fun a w hc=>h1 a w (hs a w hc),h2⟩
theorem retO {Post:AV→List (Nat×Ob)→Prop}{vs:List AV}{O':List (Nat×Ob)}(he:e=.ret∨e=.normal)(hr:qiu P σ rs=some vs)(hO:SubO O' σ.O)(hv:AV.allLs (inD O') vs=true)(hOO:allO (inD O') O'=true)(hL:∀ l,c.L l→inD O' l=true)(hP:Post (resV vs) O'):retQ P c N rs Post e σ:=
 ⟨he,σ,vs,O',fun _ _ h=>h,hr,hO,hv,hOO,hL,hP⟩
theorem Sub.rfl':Sub c N σ σ:=fun _ _ h=>h
theorem Sub.trans {σ1 σ2 σ3:St}(h:Sub c N σ1 σ2)(k:Sub c N σ2 σ3):Sub c N σ1 σ3:=fun a w hc=>k a w (h a w hc)
theorem qnk {f:FuncId}{args:List AV}{O:List (Nat×Ob)}{Post Post':AV→List (Nat×Ob)→Prop}(h:ACx m P f args O Post)(k:∀ r O',Post r O'→Post' r O'):ACx m P f args O Post':=
 fun c w vs ρ S h0 h1 h2 hD h3=>(h c w vs ρ S h0 h1 h2 hD h3).mono fun e w' ⟨v,r,O',he,hP,hC⟩=>⟨v,r,O',he,k r O' hP,hC⟩
end
end Go.Proofs.YtpgceiijoedppaaGreat