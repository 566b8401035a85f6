/- Part 7 of the proof: SymT, SymU, SymV, SymW, SymX. -/
import Derived.Test.YtpgceiijoedppaaGreatC6
import Derived.Lib.AppendZerosOnto
import Derived.Lib.SliceRun
set_option linter.unusedVariables false
set_option linter.unusedSimpArgs false
namespace Go.Proofs.YtpgceiijoedppaaGreat
open Go
variable {O:List (Nat×Ob)}{S:Bool→Nat→Prop}{a:Act}{by_ k l n:Nat}{ds:List (List D)}{e t:TypeId}{es:List (Option (List D))}{f:Bool}{kn:IntKind}{ops:Array Oper}{rest:List Oper}{w:World}{x y:Operand}{z:Int}{ρ:Nat→Value}
section
variable {P:Program}{c:Ctx}{N:Nat}{Q:Exit→St→Prop}{σ:St}{o:Oper}
theorem Conc.newArr {T:List (Nat×AV)}(hc:Conc c N ⟨T,O⟩ a w ρ S){l' cap:Nat}{us cs:List Value}(hl:ok O l'=none)
  (hcs:cs.length=cap*k) (hpre:∃ rest,cs=us++rest) (hul:us.length=ds.length*k) (hdl:∀ d∈ds,d.length=k) (h1:∀ u∈us,u.oneCell'=true) (hr:RepL w ρ S (St.U ⟨T,O⟩) (lift f ds.flatten) us) (hle:ds.length≤cap) (hmax:cap≤maxLen) (w':World) (hw':w'=w.drew.alloc (.cells cs.toArray e)):
  Conc c N ⟨T,(l',.arr e k f (ds.map some++List.replicate (cap-ds.length) none))::O⟩ a w' (upd ρ l' (.slice (some ⟨w.heap.size,0,none⟩) cap cap)) S:=by
 subst hw'
 have hw0:=hc.fm.size
 have hfar:Far (fun _=>False) w (w.drew.alloc (.cells cs.toArray e)):=(Far.drew _ w).trans (Far.alloc _ _ _)
 have hg:Conc c N ⟨T,O⟩ a (w.drew.alloc (.cells cs.toArray e)) ρ S:=hc.grow hfar (fun _ _ _ h=>h) (fun _ _ _ _ _ _ h=>h) (fun _ _ h=>h.elim)
 have hlen:(ds.map some++List.replicate (cap-ds.length) (none:Option (List D))).length=cap:=by simp;omega
 have hsz:(w.drew.alloc (.cells cs.toArray e)).heap.size=w.heap.size+1:=qgq w.drew _
 refine hg.addOb hl (fun b hb=>?_) ⟨w.heap.size,cs,by rw [qbY,hlen],qfD w.drew _,by rw [hlen];exact hcs,by rw [hlen];exact hmax,fun i d hd=>?_⟩
 ·simp only [blk,Option.some.injEq] at hb;subst hb
  refine ⟨by omega,by omega,fun g hS=>by have:=hc.Sb g _ hS;omega,fun m om hm hv e'=>by have:=hc.lt m om _ hm hv e';omega⟩
 ·have hi:ds[i]?=some d:=by
   by_cases hi:i<ds.length
   ·rw [List.getElem?_append_left (by simpa using hi),List.getElem?_map] at hd
    obtain ⟨d',h2,h3⟩:=Option.map_eq_some_iff.1 hd
    cases h3;exact h2
   ·rw [List.getElem?_append_right (by simpa using hi),List.getElem?_replicate] at hd
    split at hd<;>simp at hd
  obtain ⟨rest,rfl⟩:=hpre
  have hil:i<ds.length:=(List.getElem?_eq_some_iff.1 hi).1
  have hle2:i*k+k≤us.length:=by rw [hul,← Nat.succ_mul];exact Nat.mul_le_mul_right _ hil
  have e1:((us++rest).drop (i*k)).take k=(us.drop (i*k)).take k:=by
   rw [List.drop_append_of_le_length (by omega),List.take_append_of_le_length (by simp;omega)]
  rw [e1]
  refine ⟨hdl d (List.mem_of_getElem? hi),?_,fun y hy=>h1 y (List.mem_of_mem_drop (List.mem_of_mem_take hy))⟩
  have hne:∀ m,St.U ⟨T,O⟩ m→m≠l':=fun m hm e'=>by subst e';simp [St.U,hl] at hm
  exact (qee hdl hr i d hi).mono (fun _ _ h=>h) (fun g b hb=>hfar.block b (hc.Sb g b hb) (fun h=>h)) (fun m hm=>qet m hm) (fun m hm=>qbz (hne m hm))
theorem qky {T:List (Nat×AV)}{l' b cap:Nat}{ob:Ob}:Rep w (upd ρ l' (.slice (some ⟨b,0,none⟩) cap cap)) S (St.U ⟨T,(l',ob)::O⟩) (.vw l' 0 n cap) (.slice (some ⟨b,0,none⟩) n cap):=by
 simp only [Rep]
 exact ⟨by simp [St.U,qa0],b,⟨cap,by rw [qbY]⟩,rfl⟩
theorem qsH {U:Nat→Prop}{i:Nat}(h:ObOk w ρ S U l (.arr e k f es))(hds:∀ (j:Nat) (d:List D),ds[j]?=some d→es[i+j]?=some (some d)):
  ∃ b,∃ us:List Value,ρ l=.slice (some ⟨b,0,none⟩) es.length es.length∧us.length=ds.length*k∧(∀ (j:Nat) (u:Value),us[j]?=some u→w.cell? ⟨b,i*k+j,none⟩=some u)∧(∀ u∈us,u.oneCell'=true)∧RepL w ρ S U (lift f ds.flatten) us∧∀ d∈ds,d.length=k:=by
 obtain ⟨b,xs,h3,h4,h5,h6,h7⟩:=h
 have hsome:∀ (j:Nat) (d:List D),ds[j]?=some d→d.length=k∧RepL w ρ S U (lift f d) ((xs.drop (i*k+j*k)).take k)∧∀ y∈(xs.drop (i*k+j*k)).take k,y.oneCell'=true:=fun j d hd=>by
  have:=h7 _ d (hds j d hd)
  rwa [Nat.add_mul] at this
 have hle:ds=[]∨i*k+ds.length*k≤xs.length:=by
  by_cases h0:ds=[]
  ·exact .inl h0
  ·right
   have hpos:=List.length_pos_iff.2 h0
   obtain ⟨d,hd⟩:∃ d,ds[ds.length-1]?=some d:=⟨_,List.getElem?_eq_getElem (by omega)⟩
   have h9:=(List.getElem?_eq_some_iff.1 (hds _ d hd)).1
   rw [← Nat.add_mul,h5]
   exact Nat.mul_le_mul_right _ zO
 refine ⟨b,(xs.drop (i*k)).take (ds.length*k),h3,?_,fun j u hu=>?_,?_,?_,fun d hd=>?_⟩
 ·rcases hle with h0|h0
  ·simp [h0]
  ·simp;omega
 ·rw [qdh h4];exact qhu hu
 ·rcases hle with h0|h0
  ·subst h0;simp
  ·exact (qfZ (w:=w) (ρ:=ρ) (S:=S) (U:=U) (f:=f) (k:=k) (es:=ds) (xs:=xs) (off:=i*k) h0 hsome).2
 ·rcases hle with h0|h0
  ·subst h0;simp [lift,RepL]
  ·exact (qfZ (w:=w) (ρ:=ρ) (S:=S) (U:=U) (f:=f) (k:=k) (es:=ds) (xs:=xs) (off:=i*k) h0 hsome).1
 ·obtain ⟨j,hj⟩:=List.getElem?_of_mem hd
  exact (hsome j d hj).1
theorem TyA.info (ty:TyA P t e k by_):∃ i z,P.underlying t=some (.slice e)∧P.info? e=some i∧i.zero=some z∧i.size=k∧i.bytes=by_∧z.cells.size=k:=by
 obtain ⟨i,hi1,hi2,hi3⟩:=qcL ty.s
 obtain ⟨z,hz1,hz2⟩:=ty.z
 obtain ⟨i',hi',hzz⟩:=Option.map_eq_some_iff.1 hz1
 rw [hi2] at hi';simp only [Option.some.injEq] at hi';subst hi'
 simp only [Prod.mk.injEq] at hzz
 exact ⟨i,z,hi1,hi2,hzz.1,hi3,hzz.2.2,hz2⟩
theorem qdH (z:Array Value)(n:Nat):(Builtin.zeroCells z n).toList.length=n*z.size:=by
 have:=size_zeroCells z n
 simpa using this
theorem Conc.spliceArr {T:List (Nat×AV)}(hc:Conc c N ⟨T,O⟩ a w ρ S){i m b':Nat}{xs us:List Value}(hl:ok O l=some (.arr e k f es))(hb:ρ l=.slice (some ⟨b',0,none⟩) m m)
  (h3:ρ l=.slice (some ⟨b',0,none⟩) es.length es.length) (h4:w.heap[b']?=some (.cells xs.toArray e (0,0))) (h5:xs.length=es.length*k) (h6:es.length≤maxLen) (h7:∀ (i:Nat) (d:List D),es[i]?=some (some d)→d.length=k∧RepL w ρ S (St.U ⟨T,O⟩) (lift f d) ((xs.drop (i*k)).take k)∧∀ y∈(xs.drop (i*k)).take k,y.oneCell'=true)
  (hul:us.length=ds.length*k) (hu1:∀ u∈us,u.oneCell'=true) (hur:RepL w ρ S (St.U ⟨T,O⟩) (lift f ds.flatten) us) (hdl:∀ d∈ds,d.length=k) (hfit:i+ds.length≤es.length) (hfit2:i*k+us.length≤xs.length) {w':World} (hw':w'=w.setRow b' (qau xs (i*k) us).toArray):
  Conc c N ⟨T,(l,.arr e k f (qau es i (ds.map some)))::O⟩ a w' ρ S:=by
 subst hw'
 have hfar:Far (fun g=>blk (ρ l)=some g) w (w.setRow b' (qau xs (i*k) us).toArray):=by rw [hb];exact qeC w b' _
 have hU2:∀ m,St.U ⟨T,O⟩ m→St.U ⟨T,(l,.arr e k f (qau es i (ds.map some)))::O⟩ m:=fun m hm=>qet m hm
 have hmono:∀ vs zs,RepL w ρ S (St.U ⟨T,O⟩) vs zs→RepL (w.setRow b' (qau xs (i*k) us).toArray) ρ S (St.U ⟨T,(l,.arr e k f (qau es i (ds.map some)))::O⟩) vs zs:=fun vs zs hz=>
  hz.mono (fun _ _ h=>h) (fun g b hb'=>hfar.block b (hc.Sb g b hb') (fun e'=>hc.dS l _ b g hl trivial e' hb')) hU2 (fun _ _=>rfl)
 have hlen2:(qau es i (ds.map some)).length=es.length:=qa9 (by simpa using hfit)
 have hob:ObOk (w.setRow b' (qau xs (i*k) us).toArray) ρ S (St.U ⟨T,(l,.arr e k f (qau es i (ds.map some)))::O⟩) l (.arr e k f (qau es i (ds.map some))):=by
  refine ⟨b',qau xs (i*k) us,by rw [hlen2];exact h3,setRow_heap w b' _ _ e _ h4,by rw [qa9 hfit2,hlen2];exact h5,by rw [hlen2];exact h6,fun j d hd=>?_⟩
  rw [qbu (by simpa using hfit)] at hd
  have seg:∀ (j0:Nat),(∀ p,p<k→(qau xs (i*k) us)[j*k+p]?=xs[j*k+p]?)→((qau xs (i*k) us).drop (j*k)).take k=(xs.drop (j*k)).take k:=fun _ hp=>by
   apply List.ext_getElem?
   intro p
   rw [List.getElem?_take,List.getElem?_take,List.getElem?_drop,List.getElem?_drop]
   split
   ·rename_i h;exact hp p h
   ·rfl
  by_cases c1:j<i
  ·rw [if_pos c1] at hd
   obtain ⟨g1,g2,g3⟩:=h7 j d hd
   have hjk:j*k+k≤i*k:=by rw [← Nat.succ_mul];exact Nat.mul_le_mul_right _ c1
   have e2:=seg 0 (fun p hp=>by rw [qbu hfit2,if_pos (by omega)])
   rw [e2]
   exact ⟨g1,hmono _ _ g2,g3⟩
  ·rw [if_neg c1] at hd
   by_cases c2:j<i+(ds.map some).length
   ·rw [if_pos c2,List.getElem?_map] at hd
    obtain ⟨d',hd',e3⟩:=Option.map_eq_some_iff.1 hd
    cases e3
    simp only [List.length_map] at c2
    have hjk:j*k=i*k+(j-i)*k:=by rw [← Nat.add_mul,Nat.add_sub_cancel' (by omega)]
    have hjk2:(j-i)*k+k≤us.length:=by rw [hul,← Nat.succ_mul];exact Nat.mul_le_mul_right _ (by omega)
    have e2:((qau xs (i*k) us).drop (j*k)).take k=(us.drop ((j-i)*k)).take k:=by
     apply List.ext_getElem?
     intro p
     rw [List.getElem?_take,List.getElem?_take,List.getElem?_drop,List.getElem?_drop]
     split
     ·rename_i hp
      rw [qbu hfit2,if_neg (by omega),if_pos (by omega)]
      congr 1;omega
     ·rfl
    rw [e2]
    refine ⟨hdl d (List.mem_of_getElem? hd'),hmono _ _ (qee hdl hur _ d hd'),fun y hy=>hu1 y (List.mem_of_mem_drop (List.mem_of_mem_take hy))⟩
   ·rw [if_neg c2] at hd
    simp only [List.length_map] at c2
    obtain ⟨g1,g2,g3⟩:=h7 j d hd
    have hjk:i*k+ds.length*k≤j*k:=by rw [← Nat.add_mul];exact Nat.mul_le_mul_right _ (by omega)
    have e2:=seg 0 (fun p hp=>by rw [qbu hfit2,if_neg (by omega),if_neg (by omega)])
    rw [e2]
    exact ⟨g1,hmono _ _ g2,g3⟩
 exact hc.modOb hl trivial hfar hob
theorem qdn {q d:Nat}{T:List (Nat×AV)}(l':Nat)(olds ds:List (List D))(ty:TyA P t e k by_)(hg:o.guard=none)(hd:o.dst=some d)(hN:d<N)
  (ho:o.op=.call { callee:=.builtin .append,args:=#[x,y],argTypes:=#[t,t] }) (hx:ev T x=some (.vw l 0 n q)) (hl:ok O l=some (.arr e k f es)) (hq:q=es.length) (hnq:n≤q) (hy:Src c N ⟨T,O⟩ y k f ds.length ds) (hpos:0<ds.length) (hol:olds.length=n) (hold:∀ (j:Nat) (d:List D),olds[j]?=some d→es[j]?=some (some d))
  (hl':ok O l'=none) (hb:(n+ds.length)*by_≤140737488355328) (hb0:0<by_)
  (Kroom:n+ds.length≤q→awps P c N ops rest Q ⟨(d,.vw l 0 (n+ds.length) q)::T,(l,.arr e k f (qau es n (ds.map some)))::O⟩)
  (Kgrow:q<n+ds.length→∀ cap,n+ds.length≤cap→cap≤maxLen→awps P c N ops rest Q ⟨(d,.vw l' 0 (n+ds.length) cap)::T,(l',.arr e k f ((olds++ds).map some++List.replicate (cap-(olds++ds).length) none))::O⟩):awps P c N ops (o::rest) Q ⟨T,O⟩:=by
 by_cases hroom:n+ds.length≤q
 ·refine qcF hg ?_
  rintro a w ⟨ρ,S,hc⟩
  obtain ⟨i,z,hi1,hi2,hi3,hi4,hi5,hi6⟩:=ty.info
  have h:=qaz hc hx
  simp only [Rep] at h
  obtain ⟨hU,b,⟨m,hbm⟩,hx'⟩:=h
  obtain ⟨b',xs,h3,h4,h5,h6,h7⟩:=hc.O l _ hl
  have hbm':=hbm
  rw [h3] at hbm'
  simp only [Value.slice.injEq,Option.some.injEq,Addr.mk.injEq] at hbm'
  obtain ⟨⟨rfl,_⟩,_⟩:=hbm'
  obtain ⟨A,qs,hye,hle,hdl,hsrc⟩:=hy a w ρ S hc
  rcases hsrc with ⟨_,h0⟩|⟨ad,us,rfl,hul,huc,hu1,hur⟩
  ·omega
  have hfit:n+ds.length≤es.length:=by omega
  have hfit2:n*k+us.length≤xs.length:=by rw [hul,h5,← Nat.add_mul];exact Nat.mul_le_mul_right _ hfit
  have hrun:=run_append_room (P:=P) w t o.type e i hi1 hi2 b' n q xs.toArray h4 ad ds.length qs us (by rw [hi4];exact hul) huc hu1 hroom (by rw [hi4];simpa using hfit2)
  rw [hi4] at hrun
  have hw':w.setRow b' (xs.toArray.toList.take (n*k)++us++xs.toArray.toList.drop (n*k+us.length)).toArray=w.setRow b' (qau xs (n*k) us).toArray:=by simp [qau]
  rw [hw'] at hrun
  have hC:=hc.spliceArr hl hbm h3 h4 h5 h6 h7 hul hu1 hur hdl hfit hfit2 E
  unfold Oper.wp
  have hex:(execOp a.eval o).run P w=.ok (.value (.slice (some ⟨b',0,none⟩) (n+ds.length) q)) (w.setRow b' (qau xs (n*k) us).toArray):=by
   simp only [execOp,ho,resolve]
   simp [Sem.run_bind,invoke,builtin,hx',hye,hrun]
  rw [hex]
  refine ⟨_,⟨ρ,S,hC.put (dst:=o.dst) (v:=.vw l 0 (n+ds.length) q) (by intro d' e';rw [hd] at e';cases e';exact hN) ?_⟩,?_⟩
  ·simp only [Rep]
   exact ⟨by simp [St.U,qa0],b',⟨m,hbm⟩,rfl⟩
  ·simpa [St.put,hd] using Kroom hroom
 ·have hgr:q<n+ds.length:=by omega
  refine qcF hg ?_
  rintro a w ⟨ρ,S,hc⟩
  obtain ⟨i,z,hi1,hi2,hi3,hi4,hi5,hi6⟩:=ty.info
  have h:=qaz hc hx
  simp only [Rep] at h
  obtain ⟨hU,b,⟨m,hbm⟩,hx'⟩:=h
  obtain ⟨b',xo,h3,hxl,hxc,hx1,hxr,hxd⟩:=qsH (i:=0) (ds:=olds) (hc.O l _ hl) (by simpa using hold)
  rw [h3] at hbm
  simp only [Value.slice.injEq,Option.some.injEq,Addr.mk.injEq] at hbm
  obtain ⟨⟨rfl,_⟩,_⟩:=hbm
  obtain ⟨A,qs,hye,hle,hdl,hsrc⟩:=hy a w ρ S hc
  rcases hsrc with ⟨_,h0⟩|⟨ad,us,rfl,hul,huc,hu1,hur⟩
  ·omega
  have hmax:n+ds.length≤maxLen:=by
   have:n+ds.length≤(n+ds.length)*by_:=Nat.le_mul_of_pos_right _ hb0
   simp only [maxLen];omega
  have hmx:maxLen=9223372036854775807:=rfl
  have hrun:=run_append_grow (P:=P) w t o.type e i z hi1 hi2 hi3 ⟨b',0,none⟩ n q xo (by rw [hi4,hxl,hol]) (fun j v hv=>by have:=hxc j v hv;rw [qcq];simpa using this) ad ds.length qs us (by rw [hi4];exact hul) huc hgr (by omega) (by rw [hi5];exact growslice_fits hgr hb)
  have hge:=grownCap_ge w (n+ds.length) q e
  have hcm:=grownCap_le_maxLen w (n+ds.length) q e hmax
  generalize hcap:grownCap w (n+ds.length) q e=cap at*
  have hzl:=qdH z.cells (cap-(n+ds.length))
  rw [hi6] at hzl
  have hfl:lift f (olds++ds).flatten=lift f olds.flatten++lift f ds.flatten:=by simp [lift]
  have hC:=hc.newArr (l':=l') (k:=k) (cap:=cap) (e:=e) (f:=f) (ds:=olds++ds) (us:=xo++us) (cs:=(xo++us)++(Builtin.zeroCells z.cells (cap-(n+ds.length))).toList) hl' (by
    rw [List.length_append,List.length_append,hzl,hxl,hul,hol,← Nat.add_mul,← Nat.add_mul];congr 1;omega) ⟨_,rfl⟩ (by rw [List.length_append,List.length_append,hxl,hul,← Nat.add_mul]) (fun d hd=>by rcases List.mem_append.1 hd with h|h;exact hxd d h;exact hdl d h) (fun u hu=>by rcases List.mem_append.1 hu with h|h;exact hx1 u h;exact hu1 u h) (by rw [hfl];exact hxr.append hur) (by rw [List.length_append,hol];exact hge) hcm _ E
  unfold Oper.wp
  have hex:(execOp a.eval o).run P w=.ok (.value (.slice (some ⟨w.heap.size,0,none⟩) (n+ds.length) cap)) (w.drew.alloc (.cells ((xo++us)++(Builtin.zeroCells z.cells (cap-(n+ds.length))).toList).toArray e)):=by
   simp only [execOp,ho,resolve]
   have ea:(xo.toArray++us.toArray++Builtin.zeroCells z.cells (cap-(n+ds.length)))=((xo++us)++(Builtin.zeroCells z.cells (cap-(n+ds.length))).toList).toArray:=by
    apply Array.ext';simp
   rw [ea] at hrun
   simp [Sem.run_bind,invoke,builtin,hx',hye,hrun]
  rw [hex]
  refine ⟨_,⟨_,S,hC.put (dst:=o.dst) (v:=.vw l' 0 (n+ds.length) cap) (by intro d' e';rw [hd] at e';cases e';exact hN) qky⟩,?_⟩
  simpa [St.put,hd] using Kgrow hgr cap hge hcm
theorem qiX {tn:TypeId}{q d:Nat}{T:List (Nat×AV)}(l':Nat)(olds:List (List D))(ty:TyA P t e k by_)(hg:o.guard=none)(hd:o.dst=some d)(hN:d<N)(htn:P.underlying tn=some (.int kn))
  (ho:o.op=.call { callee:=.builtin .append,args:=#[x,y],argTypes:=#[t,tn] }) (hx:ev T x=some (.vw l 0 n q)) (hl:ok O l=some (.arr e k f es)) (hy:ev T y=some (.imm (.int .i64 z))) (hz:0<z) (hol:olds.length=n) (hold:∀ (j:Nat) (d:List D),olds[j]?=some d→es[j]?=some (some d))
  (hl':ok O l'=none) (hgr:(q:Int)<n+z) (hb:((n:Int)+z)*by_≤140737488355328) (hb0:0<by_)
  (K:∀ cap:Nat,(n:Int)+z≤cap→cap≤maxLen→awps P c N ops rest Q ⟨(d,.vw l' 0 (n+z.toNat) cap)::T,(l',.arr e k f (olds.map some++List.replicate (cap-olds.length) none))::O⟩):awps P c N ops (o::rest) Q ⟨T,O⟩:=by
 refine qcF hg ?_
 rintro a w ⟨ρ,S,hc⟩
 obtain ⟨i,zv,hi1,hi2,hi3,hi4,hi5,hi6⟩:=ty.info
 have h:=qaz hc hx
 have hye:=qaz hc hy
 simp only [Rep] at h hye
 obtain ⟨hU,b,⟨m,hbm⟩,hx'⟩:=h
 obtain ⟨b',xo,h3,hxl,hxc,hx1,hxr,hxd⟩:=qsH (i:=0) (ds:=olds) (hc.O l _ hl) (by simpa using hold)
 rw [h3] at hbm
 simp only [Value.slice.injEq,Option.some.injEq,Addr.mk.injEq] at hbm
 obtain ⟨⟨rfl,_⟩,_⟩:=hbm
 obtain ⟨zn,rfl⟩:∃ zn:Nat,z=zn:=⟨z.toNat,by omega⟩
 simp only [Int.toNat_natCast] at K
 have hgr':q<n+zn:=by omega
 have hb':(n+zn)*by_≤140737488355328:=by
  have h8:(((n+zn)*by_:Nat):Int)≤140737488355328:=by rw [Int.natCast_mul,Int.natCast_add];exact hb
  omega
 have hmax:n+zn≤maxLen:=by
  have:n+zn≤(n+zn)*by_:=Nat.le_mul_of_pos_right _ hb0
  show _≤9223372036854775807
  omega
 have hmx:maxLen=9223372036854775807:=rfl
 have hzb:zn*by_≤281474976710656:=by
  have:zn*by_≤(n+zn)*by_:=Nat.mul_le_mul_right _ (by omega)
  omega
 have hf:=run_firstCells_some (P:=P) w.drew i.size n ⟨b',0,none⟩ n q xo (by rw [hi4,hxl,hol]) (fun j v hv=>by have:=hxc j v hv;rw [qcq];simpa using this)
 have hrun:=Lib.run_append_grow_zeros (P:=P) w t tn o.type e i zv .i64 kn hi1 htn hi2 hi3 (some ⟨b',0,none⟩) n q xo hf zn (by omega) (by rw [hi4];exact ty.k0) hgr' (by omega) (by rw [hi5];exact hzb) (by rw [hi5];exact growslice_fits hgr' hb')
 have hge:=grownCap_ge w (n+zn) q e
 have hcm:=grownCap_le_maxLen w (n+zn) q e hmax
 generalize hcap:grownCap w (n+zn) q e=cap at*
 have hzl:=qdH zv.cells (cap-(n+zn))
 have hzl2:=qdH zv.cells zn
 rw [hi6] at hzl hzl2
 have hC:=hc.newArr (l':=l') (k:=k) (cap:=cap) (e:=e) (f:=f) (ds:=olds) (us:=xo) (cs:=xo++((Builtin.zeroCells zv.cells zn).toList++(Builtin.zeroCells zv.cells (cap-(n+zn))).toList)) hl' (by
   rw [List.length_append,List.length_append,hzl,hzl2,hxl,hol,← Nat.add_mul,← Nat.add_mul];congr 1;omega) ⟨_,rfl⟩ hxl hxd hx1 hxr (by rw [hol];omega) hcm _ E
 unfold Oper.wp
 have hex:(execOp a.eval o).run P w=.ok (.value (.slice (some ⟨w.heap.size,0,none⟩) (n+zn) cap)) (w.drew.alloc (.cells (xo++((Builtin.zeroCells zv.cells zn).toList++(Builtin.zeroCells zv.cells (cap-(n+zn))).toList)).toArray e)):=by
  simp only [execOp,ho,resolve]
  have ea:(xo.toArray++Builtin.zeroCells zv.cells zn++Builtin.zeroCells zv.cells (cap-(n+zn)))=(xo++((Builtin.zeroCells zv.cells zn).toList++(Builtin.zeroCells zv.cells (cap-(n+zn))).toList)).toArray:=by
   apply Array.ext';simp
  rw [ea] at hrun
  simp [Sem.run_bind,invoke,builtin,hx',hye,hrun]
 rw [hex]
 refine ⟨_,⟨_,S,hC.put (dst:=o.dst) (v:=.vw l' 0 (n+zn) cap) (by intro d' e';rw [hd] at e';cases e';exact hN) qky⟩,?_⟩
 simpa [St.put,hd] using K cap (by omega) hcm
theorem qfO {tn:TypeId}{d:Nat}{T:List (Nat×AV)}(l':Nat)(f:Bool)(ty:TyA P t e k by_)(hg:o.guard=none)(hd:o.dst=some d)(hN:d<N)(htn:P.underlying tn=some (.int kn))
  (ho:o.op=.call { callee:=.builtin .append,args:=#[x,y],argTypes:=#[t,tn] }) (hx:ev T x=some (.imm (.slice none 0 0))) (hy:ev T y=some (.imm (.int .i64 z))) (hz:0<z)
  (hl':ok O l'=none) (hb:z*by_≤140737488355328) (hb0:0<by_)
  (K:∀ cap:Nat,z≤cap→cap≤maxLen→awps P c N ops rest Q ⟨(d,.vw l' 0 z.toNat cap)::T,(l',.arr e k f (List.replicate cap none))::O⟩):awps P c N ops (o::rest) Q ⟨T,O⟩:=by
 refine qcF hg ?_
 rintro a w ⟨ρ,S,hc⟩
 obtain ⟨i,zv,hi1,hi2,hi3,hi4,hi5,hi6⟩:=ty.info
 have hx':=qaz hc hx
 have hye:=qaz hc hy
 simp only [Rep] at hx' hye
 obtain ⟨zn,rfl⟩:∃ zn:Nat,z=zn:=⟨z.toNat,by omega⟩
 simp only [Int.toNat_natCast] at K
 have hb':(0+zn)*by_≤140737488355328:=by
  rw [Nat.zero_add]
  have h8:((zn*by_:Nat):Int)≤140737488355328:=by rw [Int.natCast_mul];exact hb
  omega
 have hmax:0+zn≤maxLen:=by
  have:0+zn≤(0+zn)*by_:=Nat.le_mul_of_pos_right _ hb0
  show _≤9223372036854775807
  omega
 have hmx:maxLen=9223372036854775807:=rfl
 have hrun:=Lib.run_append_grow_zeros (P:=P) w t tn o.type e i zv .i64 kn hi1 htn hi2 hi3 none 0 0 [] (by simp [Builtin.firstCells,Sem.run_pure]) zn (by omega) (by rw [hi4];exact ty.k0) (by omega) (by omega) (by rw [hi5];rw [Nat.zero_add] at hb';omega) (by rw [hi5];exact growslice_fits (by omega) hb')
 rw [Nat.zero_add] at hrun hmax
 have hge:=grownCap_ge w zn 0 e
 have hcm:=grownCap_le_maxLen w zn 0 e hmax
 generalize hcap:grownCap w zn 0 e=cap at*
 have hzl:=qdH zv.cells (cap-zn)
 have hzl2:=qdH zv.cells zn
 rw [hi6] at hzl hzl2
 have hC:=hc.newArr (l':=l') (k:=k) (cap:=cap) (e:=e) (f:=f) (ds:=[]) (us:=[]) (cs:=(Builtin.zeroCells zv.cells zn).toList++(Builtin.zeroCells zv.cells (cap-zn)).toList) hl' (by
   rw [List.length_append,hzl,hzl2,← Nat.add_mul];congr 1;omega) ⟨_,rfl⟩ (by simp) (by simp) (by simp) (by simp [lift,RepL]) (Nat.zero_le _) hcm _ rfl
 unfold Oper.wp
 have hex:(execOp a.eval o).run P w=.ok (.value (.slice (some ⟨w.heap.size,0,none⟩) zn cap)) (w.drew.alloc (.cells ((Builtin.zeroCells zv.cells zn).toList++(Builtin.zeroCells zv.cells (cap-zn)).toList).toArray e)):=by
  simp only [execOp,ho,resolve]
  have ea:((#[]:Array Value)++Builtin.zeroCells zv.cells zn++Builtin.zeroCells zv.cells (cap-zn))=((Builtin.zeroCells zv.cells zn).toList++(Builtin.zeroCells zv.cells (cap-zn)).toList).toArray:=by
   apply Array.ext';simp
  rw [show (([]:List Value).toArray)=#[] from rfl,ea] at hrun
  simp [Sem.run_bind,invoke,builtin,hx',hye,hrun]
 rw [hex]
 refine ⟨_,⟨_,S,hC.put (dst:=o.dst) (v:=.vw l' 0 zn cap) (by intro d' e';rw [hd] at e';cases e';exact hN) qky⟩,?_⟩
 simpa [St.put,hd] using K cap (by omega) hcm
theorem qjs {ty:TypeId}{g:FuncId}{fn:Func}{l2 off q:Nat}{f2:Bool}{tys:Array TypeId}(hf:P.funcs[g]?=some fn)(hn:(fn.name== "runtime.NumGoroutine")=false)(hb:fn.body.isNone=true)(hxn:Extern.findNext fn=none)(he:Extern.find fn=some (Extern.SlicesOverlaps.overlaps fn.params fn.resultTypes))(hp:fn.params=#[t,t])(hrt:fn.resultTypes=#[ty])
    (ho:o.op=.call { callee:=.value (.func g),args:=#[x,y],argTypes:=tys }) (ht:slB P t e k=true) (h1:ev σ.T x=some (.row l)) (hl:ok σ.O l=some (.rowd e k f ds)) (h2:ev σ.T y=some (.vw l2 off n q)) (hl2:ok σ.O l2=some (.arr e k f2 es)) (hne:Nat.beq l l2=false) (hk:0<k) (h0:0<es.length) (hd0:0<ds.length):Stp P c N o σ [l,l2] (.imm (.bool false)) []:=by
  refine qaN fun σ' h3 h4 st w ρ S hc=>⟨_,?_,by simp only [Rep];rfl⟩
  have hx':=qaz hc (h3 x (by simp [ho,Op.operands,Call.operands]) _ h1)
  have hy':=qaz hc (h3 y (by simp [ho,Op.operands,Call.operands]) _ h2)
  simp only [Rep] at hx' hy'
  obtain ⟨_,hxe,_⟩:=hx'
  obtain ⟨_,b,⟨m,hbm⟩,hye⟩:=hy'
  have hob1:=hc.O l _ (h4 l (by simp) _ hl)
  have hob2:=hc.O l2 _ (h4 l2 (by simp) _ hl2)
  obtain ⟨hes,xs,how,k1,k2⟩:=hob1
  obtain ⟨b',ys,k3,k4,k5,k6,k7⟩:=hob2
  rw [k3] at hbm
  simp only [Value.slice.injEq,Option.some.injEq,Addr.mk.injEq] at hbm
  obtain ⟨⟨rfl,_⟩,_⟩:=hbm
  rcases how.2 with ⟨_,hn0⟩|⟨gb,cap,cur,hv,_,hh,hcap,hmax,hsz,htk⟩
  · omega
  have hlne:l≠l2:=fun e'=>by subst e';simp at hne
  have hbne:gb≠b':=fun e'=>hlne (hc.dj l l2 _ _ b' (h4 l (by simp) _ hl) (h4 l2 (by simp) _ hl2) trivial trivial (by rw [hv,e'];rfl) (by rw [k3];rfl))
  obtain ⟨it,g4,g5,g6⟩:=qcL ht
  have hpos:0<cap*k:=Nat.mul_pos (by omega) hk
  have hov:=Lib.run_overlaps_apart (P:=P) w t ty e g4 k (fun w=>by simp [sizeOf,run_typeInfo w g5,g6,Sem.run_bind]) ⟨gb,0,none⟩ ⟨b',off,none⟩ ds.length cap n q hbne e e (cap*k) (es.length*k)
    (by simp [World.shape?,hh,hsz]) (by simp [World.shape?,k4,k5]) (by have:=Nat.mul_pos h0 hk;omega) (by simp [World.frozen?,hh]) (by simp [World.frozen?,hh])
  have e1:st.eval (.func g)=.func (.func g) #[] #[]:=rfl
  have hcall:=run_callFunc_extern hf hn hb hxn he #[.slice (some ⟨gb,0,none⟩) ds.length cap,.slice (some ⟨b',off,none⟩) n q] w
  rw [hp,hrt] at hcall
  rw [hov] at hcall
  simp only [Result.andThen] at hcall
  simp only [execOp,ho,resolve]
  simpa [Sem.run_bind,invoke,Deferred.ofValue,e1,hxe,hv,hye] using hcall
end
end Go.Proofs.YtpgceiijoedppaaGreat
namespace Go.Proofs.YtpgceiijoedppaaGreat
open Go
variable {O:List (Nat×Ob)}{e t:TypeId}{es:List (List D)}{f:Bool}{i j:Int}{k n:Nat}{ops:Array Oper}{rest:List Oper}{x y z:Operand}{α:Type}
section
variable {P:Program}{c:Ctx}{N:Nat}{Q:Exit→St→Prop}{σ:St}{o:Oper}
theorem qpK (ho:o.op=.slice t x (some y) none none)(ht:slB P t e k=true)(hx:ev σ.T x=some (.dat f k es))(hy:ev σ.T y=some (.imm (.int .i64 i)))(h0:0≤i)(h2:i≤es.length):Stp P c N o σ [] (.dat f k (es.drop i.toNat)) []:=by
 have:=qb7 (P:=P) (c:=c) (N:=N) (i:=i) (j:=es.length) ho ht hx (fun u hu=>by cases hu;exact hy) (fun h=>by cases h) (fun u hu=>by cases hu) (fun _=>rfl) h0 h2 (Int.le_refl _)
 rwa [show (es.take (es.length:Int).toNat).drop i.toNat=es.drop i.toNat by simp] at this
theorem qpL (ho:o.op=.slice t x none (some z) none)(ht:slB P t e k=true)(hx:ev σ.T x=some (.dat f k es))(hz:ev σ.T z=some (.imm (.int .i64 j)))(h0:0≤j)(h2:j≤es.length):Stp P c N o σ [] (.dat f k (es.take j.toNat)) []:=by
 have:=qb7 (P:=P) (c:=c) (N:=N) (i:=0) (j:=j) ho ht hx (fun u hu=>by cases hu) (fun _=>rfl) (fun u hu=>by cases hu;exact hz) (fun h=>by cases h) (Int.le_refl _) h0 h2
 rwa [show (es.take j.toNat).drop (0:Int).toNat=es.take j.toNat by simp] at this
theorem qcr {l off q:Nat}(ho:o.op=.slice t x (some y) none none)(ht:slB P t e k=true)(hx:ev σ.T x=some (.vw l off n q))(hy:ev σ.T y=some (.imm (.int .i64 i)))(h0:0≤i)(h1:i≤n)(hnq:n≤q):Stp P c N o σ [] (.vw l (if (q:Int)=i then off else off+i.toNat*k) (n-i.toNat) (q-i.toNat)) []:=by
 have:=qjr (P:=P) (c:=c) (N:=N) (i:=i) (j:=n) ho ht hx (fun u hu=>by cases hu;exact hy) (fun h=>by cases h) (fun u hu=>by cases hu) (fun _=>rfl) h0 h1 (by omega) hnq
 simpa using this
theorem qe6 {l off q:Nat}(ho:o.op=.slice t x none (some z) none)(ht:slB P t e k=true)(hx:ev σ.T x=some (.vw l off n q))(hz:ev σ.T z=some (.imm (.int .i64 j)))(h0:0≤j)(h2:j≤q)(hnq:n≤q):Stp P c N o σ [] (.vw l off j.toNat q) []:=by
 have:=qjr (P:=P) (c:=c) (N:=N) (i:=0) (j:=j) ho ht hx (fun u hu=>by cases hu) (fun _=>rfl) (fun u hu=>by cases hu;exact hz) (fun h=>by cases h) (Int.le_refl _) h0 h2 hnq
 simpa using this
theorem qms (ho:o.op=.slice t x none (some z) none)(ht:slB P t e k=true)(hx:ev σ.T x=some (.imm (.slice none 0 0)))(hz:ev σ.T z=some (.imm (.int .i64 j)))(h0:j=0):Stp P c N o σ [] (.imm (.slice none 0 0)) []:=by
 refine qaN fun σ' h3 _ st w ρ S hc=>⟨_,?_,by simp only [Rep];rfl⟩
 have hx':=qaz hc (h3 x (by simp [ho,Op.operands]) _ hx)
 have hz':=qaz hc (h3 z (by simp [ho,Op.operands]) _ hz)
 simp only [Rep] at hx' hz'
 subst h0
 obtain ⟨it,h4,h5,h6⟩:=qcL ht
 have hb2:∀ code,(Instr.sliceBound (.int .i64 0) 0 code).run P w=.ok 0 w:=fun code=>by simpa using run_sliceBound (P:=P) w .i64 0 0 code (by omega) (by omega)
 simp only [execOp,ho,hx',Instr.sliceAt,Option.map_none]
 simp [Sem.run_bind,run_underlying h4 w,Instr.slice,Instr.sliceBounds,hz',hb2,sizeOf,run_typeInfo w h5,h6]
theorem qpJ (ho:o.op=.slice t x (some z) none none)(ht:slB P t e k=true)(hx:ev σ.T x=some (.imm (.slice none 0 0)))(hz:ev σ.T z=some (.imm (.int .i64 j)))(h0:j=0):Stp P c N o σ [] (.imm (.slice none 0 0)) []:=by
 refine qaN fun σ' h3 _ st w ρ S hc=>⟨_,?_,by simp only [Rep];rfl⟩
 have hx':=qaz hc (h3 x (by simp [ho,Op.operands]) _ hx)
 have hz':=qaz hc (h3 z (by simp [ho,Op.operands]) _ hz)
 simp only [Rep] at hx' hz'
 subst h0
 obtain ⟨it,h4,h5,h6⟩:=qcL ht
 have hb2:∀ code,(Instr.sliceBound (.int .i64 0) 0 code).run P w=.ok 0 w:=fun code=>by simpa using run_sliceBound (P:=P) w .i64 0 0 code (by omega) (by omega)
 simp only [execOp,ho,hx',Instr.sliceAt,Option.map_none]
 simp [Sem.run_bind,run_underlying h4 w,Instr.slice,Instr.sliceBounds,hz',hb2,sizeOf,run_typeInfo w h5,h6]
theorem qex (ho:o.op=.call { callee:=.builtin .cap,args:=#[x],argTypes:=#[t] })(ht:slB P t e k=true)(hx:ev σ.T x=some (.imm (.slice none 0 0))):Stp P c N o σ [] (.imm (.int .i64 0)) []:=by
 refine qaN fun σ' h1 _ st w ρ S hc=>⟨_,?_,by simp only [Rep];rfl⟩
 have hx':=qaz hc (h1 x (by simp [ho,Op.operands,Call.operands]) _ hx)
 simp only [Rep] at hx'
 obtain ⟨i,h2,_⟩:=qcL ht
 simp only [execOp,ho,resolve]
 simp [Sem.run_bind,invoke,builtin,hx',Builtin.cap_,run_underlying h2 w,goInt]
theorem qmb {t':TypeId}{d:Nat}{T:List (Nat×AV)}(hg:o.guard=none)(hd:o.dst=some d)(hN:d<N)(ht:slB P t e k=true)
  (ho:o.op=.binOp .eql t x (.const (.slice none 0 0)) t') (hx:ev T x=some (.dat f k es))
  (K:∀ b,(b=true→es=[])→awps P c N ops rest Q ⟨(d,.imm (.bool b))::T,O⟩):awps P c N ops (o::rest) Q ⟨T,O⟩:=by
 refine qcF hg ?_
 rintro a w ⟨ρ,S,hc⟩
 have hx':=qaz hc hx
 simp only [Rep,RepD] at hx'
 obtain ⟨A,n,cp,hxe,hn,_,_,h⟩:=hx'
 obtain ⟨it,h4,h5,h6⟩:=qcL ht
 have hex:(execOp a.eval o).run P w=.ok (.value (.bool A.isNone)) w:=by
  have e1:a.eval (.const (.slice none 0 0))=.slice none 0 0:=rfl
  simp only [execOp,ho,hxe,e1]
  simp [Sem.run_bind,eqGuard,Lib.run_eql_slice_nil w t e A n cp 0 0 h4]
 unfold Oper.wp
 rw [hex]
 refine ⟨_,⟨ρ,S,hc.put (dst:=o.dst) (v:=.imm (.bool A.isNone)) (by intro d' e';rw [hd] at e';cases e';exact hN) (by simp [Rep])⟩,?_⟩
 have:=K A.isNone (fun hA=>by
  rcases h with h|⟨b,off,h,_⟩
  ·exact List.eq_nil_of_length_eq_zero (by omega)
  ·rw [h] at hA;cases hA)
 simpa [St.put,hd] using this
theorem qmt {t':TypeId}{k yk:IntKind}{a b:Int}(ho:o.op=.binOp .shr t x y t')(hx:ev σ.T x=some (.imm (.int k a)))(hy:ev σ.T y=some (.imm (.int yk b)))(h0:0≤b):Stp P c N o σ [] (.imm (.int k (a / 2 ^ min b.toNat k.bits))) []:=by
 refine qaN fun σ' h1 _ s w ρ S hc=>⟨_,?_,by simp only [Rep];rfl⟩
 have hx':=qaz hc (h1 x (by simp [ho,Op.operands]) _ hx)
 have hy':=qaz hc (h1 y (by simp [ho,Op.operands]) _ hy)
 simp only [Rep] at hx' hy'
 simp only [execOp,ho,hx',hy']
 simp [Sem.run_bind,eqGuard,binOp,shift_shr_any k yk a b h0]
theorem qeo (σ':St)(h:∀ Q,awps P c N ops rest Q σ'→awps P c N ops (o::rest) Q σ)(K:awps P c N ops rest Q σ'):awps P c N ops (o::rest) Q σ:=h Q K
theorem Src.hx {ds:List (List D)}(h:Src c N σ x k f n ds)(hn:n=ds.length):∀ a w ρ S,Conc c N σ a w ρ S→∃ A n c',a.eval x=.slice A n c'∧n=ds.length∧((A=none∧n=0)∨∃ ad,∃ us:List Value,A=some ad∧us.length=n*k∧(∀ j u,us[j]?=some u→w.cell? (ad.add j)=some u)∧(∀ u∈us,u.oneCell'=true)∧RepL w ρ S σ.U (lift f ds.flatten) us):=by
 subst hn
 intro a w ρ S hc
 obtain ⟨A,q,h1,_,_,h2⟩:=h a w ρ S hc
 exact ⟨A,ds.length,q,h1,rfl,h2⟩
theorem qmy (hk:∀ d∈es,d.length=k)(hx:ev σ.T x=some (.dat f k es)):Src c N σ x k f es.length es:=by
 intro a w ρ S hc
 have h:=qaz hc hx
 simp only [Rep,RepD] at h
 obtain ⟨A,n,cp,hxe,rfl,_,_,h⟩:=h
 rcases h with h|⟨b,off,rfl,hS,_,hes⟩
 ·cases A with
  | none=>exact ⟨none,cp,hxe,Nat.le_refl _,hk,.inl ⟨rfl,h⟩⟩
  | some ad=>
    have hnil:es=[]:=List.eq_nil_of_length_eq_zero h
    subst hnil
    exact ⟨some ad,cp,hxe,Nat.le_refl _,hk,.inr ⟨ad,[],rfl,by simp,by simp,by simp,by simp [lift,RepL]⟩⟩
 ·have hcs:∀ {es:List (List D)} {off:Nat},qcK w f (S f) b k off es→qbX w f (S f) b off es.flatten:=by
   intro es
   induction es with
   | nil=>intro off _;simp [qbX]
   | cons e es ih=>
     intro off h
     simp only [qcK] at h
     have app:∀ {xs ys:List D} {off:Nat},qbX w f (S f) b off xs→qbX w f (S f) b (off+xs.length) ys→qbX w f (S f) b off (xs++ys):=by
      intro xs
      induction xs with
      | nil=>intro ys off _ h;simpa using h
      | cons x xs ih=>intro ys off h1 h2;simp only [qbX,List.cons_append] at h1 ⊢;exact ⟨h1.1,ih h1.2 (by simpa [Nat.add_assoc,Nat.add_comm 1] using h2)⟩
     rw [List.flatten_cons]
     exact app h.1.2 (by rw [h.1.1];exact ih h.2)
  obtain ⟨us,h2,h3,h4⟩:=qf0 (ρ:=ρ) (U:=σ.U) (hcs hes)
  have hfl:∀ {es:List (List D)},(∀ d∈es,d.length=k)→es.flatten.length=es.length*k:=by
   intro es
   induction es with
   | nil=>intro _;simp
   | cons e es ih=>intro h;rw [List.flatten_cons,List.length_append,h e (by simp),ih (fun d hd=>h d (by simp [hd])),List.length_cons,Nat.add_mul];omega
  have hul:us.length=es.length*k:=by rw [h2.length];simp only [lift,List.length_map];exact hfl hk
  exact ⟨some ⟨b,off,none⟩,cp,hxe,Nat.le_refl _,hk,.inr ⟨_,us,rfl,hul,fun j u hu=>by rw [qcq];exact h4 j u hu,h3,h2⟩⟩
theorem qcG {s:Operand}{by_ l d:Nat}{news:List (List D)}{T:List (Nat×AV)}(l':Nat)(ty:TyA P t e k by_)(hg:o.guard=none)(hd:o.dst=some d)(hN:d<N)
  (ho:o.op=.call { callee:=.builtin .append,args:=#[s,x],argTypes:=#[t,t] }) (hs:ev T s=some (.row l)) (hl:ok O l=some (.rowd e k f es)) (hx:Src c N ⟨T,O⟩ x k f n news) (hn:n=news.length) (hk:∀ d∈news,d.length=k) (hL:¬ c.L l) (hl':ok O l'=none) (hb:(es.length+news.length)*by_≤140737488355328) (hb0:Nat.ble 1 by_=true)
  (K:awps P c N ops rest Q ⟨(d,.row l')::T,(l',.rowd e k f (es++news))::(l,.dead)::O⟩):awps P c N ops (o::rest) Q ⟨T,O⟩:=by
 refine qcF hg fun a w hc=>Oper.wp_mono ?_ (qhH ty ho (by intro e he;rw [hd] at he;cases he;exact hN) hs hl hL hl' (hx.hx hn) hk hb (Nat.le_of_ble_eq_true hb0) a w hc)
 rintro a w ⟨σ2,h2,rfl⟩
 refine ⟨_,h2,?_⟩
 simpa [St.add,hd] using K
end
def ins {α:Type}(l:List α)(i:Nat)(x:α):List α:=l.take i++x::l.drop i
theorem qbw (l:List α)(i:Nat)(x:α)(h:i≤l.length):(ins l i x).length=l.length+1:=by simp [ins];omega
theorem qia {β:Type}(g:α→β)(l:List α)(i:Nat)(x:α):(ins l i x).map g=ins (l.map g) i (g x):=by simp [ins]
theorem qji (l:List α)(i:Nat)(x:α)(h:i≤l.length)(j:Nat):(ins l i x)[j]?=if j<i then l[j]? else if j=i then some x else l[j-1]?:=by
 have ht:(l.take i).length=i:=by simp;omega
 unfold ins
 by_cases h1:j<i
 ·rw [if_pos h1,List.getElem?_append_left (by omega),List.getElem?_take_of_lt h1]
 ·rw [if_neg h1,List.getElem?_append_right (by omega),ht]
  by_cases h2:j=i
  ·rw [if_pos h2,h2,Nat.sub_self];rfl
  ·rw [if_neg h2]
   obtain ⟨m,hm⟩:∃ m,j-i=m+1:=⟨j-i-1,by omega⟩
   rw [hm,List.getElem?_cons_succ,List.getElem?_drop]
   congr 1;omega
theorem ql3 (l junk:List α)(i:Nat)(x:α)(h:i<l.length)(hj:0<junk.length):qau (qau (l++junk) (i+1) (l.drop i)) i [x]=ins l i x++junk.drop 1:=by
 have hl1:i+1+(l.drop i).length≤(l++junk).length:=by simp;omega
 have hl2:(qau (l++junk) (i+1) (l.drop i)).length=l.length+junk.length:=by rw [qa9 hl1];simp
 apply List.ext_getElem?
 intro j
 rw [qbu (by rw [hl2];simp;omega),qbu hl1]
 simp only [List.length_singleton,List.length_drop]
 by_cases h1:j<i
 ·rw [if_pos h1,if_pos (by omega),List.getElem?_append_left (by omega),List.getElem?_append_left (by rw [qbw _ _ _ (by omega)];omega),qji _ _ _ (by omega),if_pos h1]
 ·rw [if_neg h1]
  by_cases h2:j=i
  ·subst h2
   rw [if_pos (by omega),List.getElem?_append_left (by rw [qbw _ _ _ (by omega)];omega),qji _ _ _ (by omega),if_neg (by omega),if_pos E,Nat.sub_self];rfl
  ·rw [if_neg (by omega),if_neg (by omega)]
   by_cases h3:j<l.length+1
   ·rw [if_pos (by omega),List.getElem?_append_left (by rw [qbw _ _ _ (by omega)];omega),qji _ _ _ (by omega),if_neg h1,if_neg h2,List.getElem?_drop]
    congr 1;omega
   ·rw [if_neg (by omega),List.getElem?_append_right (by omega),List.getElem?_append_right (by rw [qbw _ _ _ (by omega)];omega),qbw _ _ _ (by omega),List.getElem?_drop]
    congr 1;omega
theorem qnZ (l:List α)(i m:Nat)(x z:α)(h:i≤l.length)(hm:l.length+1≤m):qau (qau (l.take i++List.replicate (m-(l.take i).length) z) i [x]) (i+1) (l.drop i)=ins l i x++List.replicate (m-(l.length+1)) z:=by
 have hlt:(l.take i).length=i:=by simp;omega
 have hl0:(l.take i++List.replicate (m-(l.take i).length) z).length=m:=by simp;omega
 have hl1:i+[x].length≤(l.take i++List.replicate (m-(l.take i).length) z).length:=by rw [hl0];simp;omega
 have hl2:i+1+(l.drop i).length≤(qau (l.take i++List.replicate (m-(l.take i).length) z) i [x]).length:=by rw [qa9 hl1,hl0];simp;omega
 apply List.ext_getElem?
 intro j
 rw [qbu hl2,qbu hl1]
 simp only [List.length_singleton,List.length_drop]
 by_cases h1:j<i
 ·rw [if_pos (by omega),if_pos h1,List.getElem?_append_left (by omega),List.getElem?_append_left (by rw [qbw _ _ _ (by omega)];omega),qji _ _ _ (by omega),if_pos h1,List.getElem?_take_of_lt h1]
 ·by_cases h2:j=i
  ·subst h2
   rw [if_pos (by omega),if_neg (by omega),if_pos (by omega),List.getElem?_append_left (by rw [qbw _ _ _ (by omega)];omega),qji _ _ _ (by omega),if_neg (by omega),if_pos E,Nat.sub_self];rfl
  ·rw [if_neg (by omega)]
   by_cases h3:j<l.length+1
   ·rw [if_pos (by omega),List.getElem?_append_left (by rw [qbw _ _ _ (by omega)];omega),qji _ _ _ (by omega),if_neg h1,if_neg h2,List.getElem?_drop]
    congr 1;omega
   ·rw [if_neg (by omega),if_neg h1,if_neg (by omega),List.getElem?_append_right (by omega),List.getElem?_append_right (by rw [qbw _ _ _ (by omega)];omega),qbw _ _ _ (by omega),List.getElem?_replicate,List.getElem?_replicate]
    congr 1
    rw [hlt,eq_iff_iff];omega
end Go.Proofs.YtpgceiijoedppaaGreat
namespace Go.Proofs.YtpgceiijoedppaaGreat
open Go
variable {O Oin:List (Nat×Ob)}{g:FuncId}{tys:Array TypeId}{x:Operand}{xs:List Operand}
mutual
def AV.hd (p:Nat→Bool):AV→AV
 | .ptr l off=>if p l then .ptr l off else .any
 | .row l=>if p l then .row l else .any
 | .map l=>if p l then .map l else .any
 | .vw l off n c=>if p l then .vw l off n c else .any
 | .agg cs=>.agg (AV.hds p cs)
 | .fn f cs=>.fn f (AV.hds p cs)
 | .tup cs=>.tup (AV.hds p cs)
 | .any=>.any
 | .imm v=>.imm v
 | .dat f k es=>.dat f k es
 | .elp f ds=>.elp f ds
def AV.hds (p:Nat→Bool):List AV→List AV
 | []=>[]
 | v::vs=>AV.hd p v::AV.hds p vs
end
mutual
theorem Rep.hd {w:World}{ρ:Nat→Value}{S:Bool→Nat→Prop}{U U':Nat→Prop}{p:Nat→Bool}(hU:∀ l,p l=true→U' l):∀ (v:AV) (x:Value),Rep w ρ S U v x→Rep w ρ S U' (AV.hd p v) x
 | .any,x,h=>by simp [AV.hd,Rep]
 | .imm v,x,h=>by simpa [AV.hd,Rep] using h
 | .dat f k es,x,h=>by simpa only [AV.hd,Rep] using h
 | .elp f ds,x,h=>by simpa only [AV.hd,Rep] using h
 | .agg cs,x,h=>by
   simp only [AV.hd,Rep] at h ⊢
   obtain ⟨xs,hx,h1,h⟩:=h
   exact ⟨xs,hx,h1,RepL.hd hU cs xs h⟩
 | .fn f cs,x,h=>by
   simp only [AV.hd,Rep] at h ⊢
   obtain ⟨xs,hx,h⟩:=h
   exact ⟨xs,hx,RepL.hd hU cs xs h⟩
 | .tup cs,x,h=>by
   simp only [AV.hd,Rep] at h ⊢
   obtain ⟨xs,hx,h⟩:=h
   exact ⟨xs,hx,RepL.hd hU cs xs h⟩
 | .ptr l off,x,h=>by
   simp only [AV.hd]
   split
   ·rename_i hp;simp only [Rep] at h ⊢;exact ⟨hU l hp,h.2⟩
   ·simp [Rep]
 | .row l,x,h=>by
   simp only [AV.hd]
   split
   ·rename_i hp;simp only [Rep] at h ⊢;exact ⟨hU l hp,h.2⟩
   ·simp [Rep]
 | .map l,x,h=>by
   simp only [AV.hd]
   split
   ·rename_i hp;simp only [Rep] at h ⊢;exact ⟨hU l hp,h.2⟩
   ·simp [Rep]
 | .vw l off n c,x,h=>by
   simp only [AV.hd]
   split
   ·rename_i hp;simp only [Rep] at h ⊢;exact ⟨hU l hp,h.2⟩
   ·simp [Rep]
theorem RepL.hd {w:World}{ρ:Nat→Value}{S:Bool→Nat→Prop}{U U':Nat→Prop}{p:Nat→Bool}(hU:∀ l,p l=true→U' l):∀ (vs:List AV) (xs:List Value),RepL w ρ S U vs xs→RepL w ρ S U' (AV.hds p vs) xs
 | [],xs,h=>by simpa [AV.hds,RepL] using h
 | v::vs,xs,h=>by
   simp only [AV.hds,RepL] at h ⊢
   obtain ⟨y,ys,hx,h1,h2⟩:=h
   exact ⟨y,ys,hx,Rep.hd hU v y h1,RepL.hd hU vs ys h2⟩
end
def PassT (O Oin:List (Nat×Ob)):Prop:=∀ l ob',ok Oin l=some ob'→ok O l=some ob'∧ob'.live∧ob'.allL (inD Oin)=true
inductive qme (O:List (Nat×Ob))(p:Nat→Bool):List (Nat×Ob)→Prop where
 | nil:qme O p []
 | cons {l:Nat} {ob:Ob} {r:List (Nat×Ob)} (h:ok O l=some ob) (hl:ob.live) (ha:ob.allL p=true) (hr:qme O p r):qme O p ((l,ob)::r)
theorem qme.get {p:Nat→Bool}:∀ {L:List (Nat×Ob)},qme O p L→∀ {l:Nat} {ob:Ob},ok L l=some ob→ok O l=some ob∧ob.live∧ob.allL p=true
 | _,.nil,l,ob,h=>by simp [ok] at h
 | _,.cons h hl ha hr,l,ob,hk=>by
   rw [qa0] at hk
   split at hk
   ·rename_i e;subst e;cases hk;exact ⟨h,hl,ha⟩
   ·exact hr.get hk
theorem passT (h:qme O (inD Oin) Oin):PassT O Oin:=fun _ _ hl=>h.get hl
section
variable {P:Program}{c:Ctx}{N:Nat}{Q:Exit→St→Prop}{σ:St}{o:Oper}
theorem qrf [hDk:DOk false c]{caps avs args:List AV}{T:List (Nat×AV)}{Post:AV→List (Nat×Ob)→Prop}{Φ:St→Prop}
    (ho:o.op=.call { callee:=.value x,args:=xs.toArray,argTypes:=tys }) (hdN:∀ d,o.dst=some d→d<N) (hen:qY P g)
    (hx:ev T x=some (.fn g caps)) (hxs:xs.map (ev T)=avs.map some) (hcv:AV.hds (inD Oin) (avs++caps)=args) (hOin:PassT O Oin) (hAC:ACt P g args Oin Post)
    (hfr:∀ r O',Post r O'→∀ l,inD O' l=true→inD Oin l=true∨inD O l=false)
    (K:∀ r O',Post r O'→Φ (St.put ⟨T,O'++O⟩ o.dst r)):AOp P c N o ⟨T,O⟩ Φ:=by
  rintro a w ⟨ρ,S,hc⟩
  have hf:=qaz hc hx
  simp only [Rep] at hf
  obtain ⟨cs,hfe,hcs⟩:=hf
  have has:=qj6 (σ:=⟨T,O⟩) hc (fun _ _ _ h=>h) hxs
  have hall:=RepL.hd (p:=inD Oin) (U':=St.U ⟨argT 0 args,Oin⟩) (fun l h=>h) _ _ (has.append hcs)
  rw [hcv] at hall
  have hpl:∀ l,inD Oin l=true→∃ ob,ok O l=some ob∧ob.live:=fun l hl=>by
    obtain ⟨ob',h'⟩:=Option.isSome_iff_exists.1 (show (ok Oin l).isSome=true from hl)
    obtain ⟨h1,h2,_⟩:=hOin l ob' h'
    exact ⟨ob',h1,h2⟩
  let W:Nat→Prop:=fun b=>∃ l,inD Oin l=true∧blk (ρ l)=some b
  let cc:Ctx:=⟨w,W,S false,ρ,fun l=>inD Oin l=true,S true,c.D,fun _=>False⟩
  have hent:Conc cc args.length ⟨argT 0 args,Oin⟩ ⟨(xs.map a.eval++cs).toArray,[]⟩ w ρ S:=by
    refine ⟨by have:=hall.length;simpa using this,rfl,fun t v ht=>?_,fun l ob' hl=>?_,fun l l' ob ob' b h1 h2 h3 h4 h5 h6=>?_,fun l ob b f h1 h2 h3=>?_,fun l ob b h1 h2 h3=>?_,fun l ob b h1 h2 h3=>?_,hc.SS,hc.Sb,fun b h=>.inl h,fun b h=>.inl h,fun l hl=>⟨hl,rfl⟩,Fm.start (c:=cc) (fun _ h=>h.elim) (fun _ h=>h.elim) hc.fm.uf⟩
    · obtain ⟨j,h1,y,hy,hv⟩:=qmM 0 hall t v ht
      have:(xs.map a.eval++cs).toArray.getD t undef=y:=by
        rw [Array.getD_eq_getD_getElem?]
        simp only [List.getElem?_toArray]
        rw [h1,Nat.zero_add,hy];rfl
      simp only
      rw [this];exact hv
    · obtain ⟨h1,h2,h3⟩:=hOin l ob' hl
      exact (hc.O l ob' h1).move (fun _ _ h=>h) (fun _ _ _=>rfl) (fun m hm _=>⟨hm,rfl⟩) E h3 (fun _ _=>rfl)
    · exact hc.dj l l' ob ob' b (hOin l ob h1).1 (hOin l' ob' h2).1 h3 h4 h5 h6
    · exact hc.dS l ob b f (hOin l ob h1).1 h2 h3
    · have hl:inD Oin l=true:=by simp [inD,h1]
      exact .inr ⟨hl,l,hl,h3⟩
    · exact hc.lt l ob b (hOin l ob h1).1 h2 h3
  have hcall:=hAC cc w (xs.map a.eval++cs) ρ S E (fun l=>Iff.rfl) hDk hent
  have hex:(execOp a.eval o).run P w=.ok (.enter g (xs.map a.eval++cs).toArray) w:=by
    simp only [execOp,ho,resolve]
    simp [Sem.run_bind,hfe,Deferred.ofValue,invoke,hen _ _]
  unfold Oper.wp
  rw [hex]
  simp only [Oper.upon_enter]
  refine Calls.mono hcall ?_
  rintro e w' ⟨v,r,O',rfl,hP,ρ',S',h'⟩
  simp only
  refine ⟨_,?_,K r O' hP⟩
  have hfar:=h'.fm
  have hsz:w.heap.size≤w'.heap.size:=hfar.size
  have hin:∀ l,inD Oin l=true→inD O' l=true∧ρ' l=ρ l:=fun l hl=>h'.lo l hl
  have hw0:=hc.fm.size
  let ρ'':Nat→Value:=fun l=>if inD O' l=true then ρ' l else ρ l
  let S'':Bool→Nat→Prop:=fun f b=>S f b∨(S' f b∧w.heap.size≤b)
  have hρ1:∀ l,inD O' l=true→ρ'' l=ρ' l:=fun l hl=>if_pos hl
  have hρ2:∀ l,inD O l=true→ρ'' l=ρ l:=fun l hl=>by
    by_cases h:inD O' l=true
    · rw [hρ1 l h]
      rcases hfr r O' hP l h with h1|h1
      · exact (hin l h1).2
      · rw [hl] at h1;cases h1
    · exact if_neg h
  have hnW:∀ l ob b,ok O l=some ob→ob.live→inD O' l=false→blk (ρ l)=some b→¬ W b:=fun l ob b h1 h2 h3 h4 ⟨m,hm,hb⟩=>by
    obtain ⟨o1,k1,k2⟩:=hpl m hm
    have:=hc.dj m l o1 ob b k1 h1 k2 h2 hb h4
    subst this;rw [(hin m hm).1] at h3;cases h3
  have hSW:∀ f b,S f b→w'.heap[b]?=w.heap[b]?:=fun f b hb=>hfar.block b (hc.Sb f b hb) fun ⟨m,hm,e⟩=>by
    obtain ⟨o1,k1,k2⟩:=hpl m hm
    exact hc.dS m o1 b f k1 k2 e hb
  have hUO:∀ l,inD O l=true→St.U ⟨T,O'++O⟩ l:=fun l hl=>by
    simp only [St.U,qeN]
    split
    · rfl
    · exact hl
  have hUO':∀ l,inD O' l=true→St.U ⟨T,O'++O⟩ l:=fun l hl=>by
    simp only [St.U,qeN]
    split
    · rfl
    · rename_i h;simp [inD,h] at hl
  have hqS:∀ f b,(fun _:Bool=>true) f=true→S' f b→S'' f b:=fun f b _ hb=>by
    cases f with
    | true=>
      rcases h'.Sn b hb with h|h
      · exact .inl h
      · exact .inr ⟨hb,h⟩
    | false=>
      rcases h'.So b hb with h|h
      · exact .inl h
      · exact .inr ⟨hb,h⟩
  have hqr:r.allQ (fun _=>true)=true:=qlc r
  have hqO:∀ l ob,ok O' l=some ob→ob.allQ (fun _=>true)=true:=fun l ob hl=>qlW ob
  have hpp:∀ l,(fun _:Nat=>true) l=true→St.U ⟨[(0,r)],O'⟩ l→St.U ⟨T,O'++O⟩ l∧ρ'' l=ρ' l:=fun l _ hl=>⟨hUO' l hl,hρ1 l hl⟩
  have hsp:∀ l ob,ok (O'++O) l=some ob→ok O' l=some ob∨(inD O' l=false∧ok O l=some ob):=fun l ob h=>by
    rw [qeN] at h
    split at h
    · rename_i v hv;simp only [Option.some.injEq] at h;subst h;exact .inl hv
    · rename_i hv;exact .inr ⟨by simp [inD,hv],h⟩
  have hblk:∀ l ob b,ok O' l=some ob→ob.live→blk (ρ'' l)=some b→(inD Oin l=true∧blk (ρ l)=some b)∨(w.heap.size≤b):=fun l ob b h1 h2 h3=>by
    have hl:inD O' l=true:=by simp [inD,h1]
    rw [hρ1 l hl] at h3
    rcases h'.wr l ob b h1 h2 h3 with h|⟨h,_⟩
    · exact .inr h
    · exact .inl ⟨h,by rw [← (hin l h).2];exact h3⟩
  have hnew:Conc c N ⟨T,O'++O⟩ a w' ρ'' S'':=by
    refine ⟨hc.tm,hc.df,fun t v ht=>(hc.T t v ht).mono (fun f b h=>.inl h) hSW hUO hρ2,fun l ob hl=>?_,fun l l' ob ob' b h1 h2 h3 h4 h5 h6=>?_,fun l ob b f h1 h2 h3 h4=>?_,fun l ob b h1 h2 h3=>?_,fun l ob b h1 h2 h3=>?_,?_,?_,?_,?_,fun l hl=>?_,?_⟩
    · rcases hsp l ob hl with h1|⟨h1,h2⟩
      · have hl1:inD O' l=true:=by simp only [inD,h1];rfl
        exact ObOk.gen hqS (fun _ _ _ _=>rfl) hpp (hρ1 l hl1) (qlX ob) (hqO l ob h1) (fun _ _=>rfl) (h'.O l ob h1)
      · by_cases hv:ob.live
        · exact (hc.O l ob h2).mono (fun f b h=>.inl h) hSW hUO hρ2 (show St.U ⟨T,O⟩ l by simp [St.U,h2]) (fun b hb=>hfar.block b (hc.lt l ob b h2 hv hb) (hnW l ob b h2 hv h1 hb))
        · cases ob<;>first|exact absurd trivial hv|trivial
    · have mix:∀ l l' ob ob' b,ok O' l=some ob→(inD O' l'=false∧ok O l'=some ob')→ob.live→ob'.live→blk (ρ'' l)=some b→blk (ρ'' l')=some b→l=l':=by
        rintro l l' ob ob' b k1 ⟨k2,k3⟩ k4 k5 k6 k7
        have k8:blk (ρ l')=some b:=by rw [← hρ2 l' (by simp [inD,k3])];exact k7
        rcases hblk l ob b k1 k4 k6 with ⟨k9,k10⟩|k9
        · obtain ⟨o1,j1,j2⟩:=hpl l k9
          exact hc.dj l l' o1 ob' b j1 k3 j2 k5 k10 k8
        · have:=hc.lt l' ob' b k3 k5 k8;omega
      rcases hsp l ob h1 with k1|k1<;>rcases hsp l' ob' h2 with k2|k2
      · rw [hρ1 l (by simp [inD,k1])] at h5
        rw [hρ1 l' (by simp [inD,k2])] at h6
        exact h'.dj l l' ob ob' b k1 k2 h3 h4 h5 h6
      · exact mix l l' ob ob' b k1 k2 h3 h4 h5 h6
      · exact (mix l' l ob' ob b k2 k1 h4 h3 h6 h5).symm
      · rw [hρ2 l (by simp [inD,k1.2])] at h5
        rw [hρ2 l' (by simp [inD,k2.2])] at h6
        exact hc.dj l l' ob ob' b k1.2 k2.2 h3 h4 h5 h6
    · rcases hsp l ob h1 with k1|⟨k1,k2⟩
      · rcases h4 with h4|⟨h4,h7⟩
        · rcases hblk l ob b k1 h2 h3 with ⟨k9,k10⟩|k9
          · obtain ⟨o1,j1,j2⟩:=hpl l k9
            exact hc.dS l o1 b f j1 j2 k10 h4
          · have:=hc.Sb f b h4;omega
        · rw [hρ1 l (by simp [inD,k1])] at h3
          exact h'.dS l ob b f k1 h2 h3 h4
      · rw [hρ2 l (by simp [inD,k2])] at h3
        rcases h4 with h4|⟨h4,h7⟩
        · exact hc.dS l ob b f k2 h2 h3 h4
        · have:=hc.lt l ob b k2 h2 h3;omega
    · rcases hsp l ob h1 with k1|⟨k1,k2⟩
      · rcases hblk l ob b k1 h2 h3 with ⟨k9,k10⟩|k9
        · obtain ⟨o1,j1,j2⟩:=hpl l k9
          exact hc.wr l o1 b j1 j2 k10
        · exact .inl (by omega)
      · rw [hρ2 l (by simp [inD,k2])] at h3
        exact hc.wr l ob b k2 h2 h3
    · rcases hsp l ob h1 with k1|⟨k1,k2⟩
      · rw [hρ1 l (by simp [inD,k1])] at h3
        exact h'.lt l ob b k1 h2 h3
      · rw [hρ2 l (by simp [inD,k2])] at h3
        exact Nat.lt_of_lt_of_le (hc.lt l ob b k2 h2 h3) hsz
    · rintro b ⟨h1|⟨h1,h3⟩,h2|⟨h2,h4⟩⟩
      · exact hc.SS b ⟨h1,h2⟩
      · have:=hc.Sb _ b h1;omega
      · have:=hc.Sb _ b h2;omega
      · exact h'.SS b ⟨h1,h2⟩
    · rintro f b (h1|⟨h1,h3⟩)
      · exact Nat.lt_of_lt_of_le (hc.Sb f b h1) hsz
      · exact h'.Sb f b h1
    · rintro b (h1|⟨h1,h3⟩)
      · exact hc.Sn b h1
      · exact .inr (by omega)
    · rintro b (h1|⟨h1,h3⟩)
      · exact hc.So b h1
      · exact .inr (by omega)
    · obtain ⟨h1,h2⟩:=hc.lo l hl
      exact ⟨hUO l h1,by rw [hρ2 l h1];exact h2⟩
    · refine hc.fm.grow hfar.toFar0 (fun hd=>hfar.dr hd) (fun f b h=>⟨f,.inl h⟩) hSW (fun b h=>h.elim .inl fun h=>.inr (h'.fm.uf b h.1)) ?_
      rintro b hb ⟨m,hm,e⟩
      obtain ⟨o1,k1,k2⟩:=hpl m hm
      rcases hc.wr m o1 b k1 k2 e with h|h
      · omega
      · exact h.2
  have hrr:Rep w' ρ'' S'' (St.U ⟨T,O'++O⟩) r v:=by
    have h1:=h'.T 0 r (by simp [qcm])
    exact Rep.gen hqS (fun _ _ _ _=>rfl) hpp r v (qld r) hqr h1
  exact ⟨_,_,hnew.put hdN hrr⟩
theorem qhG [DOk false c]{ops:Array Oper}{rest:List Oper}{caps avs args:List AV}{T:List (Nat×AV)}{Post:AV→List (Nat×Ob)→Prop}{d:Nat}(hg:o.guard=none)
  (ho:o.op=.call { callee:=.value x,args:=xs.toArray,argTypes:=tys }) (hd:o.dst=some d) (hN:d<N) (hen:qY P g)
  (hx:ev T x=some (.fn g caps)) (hxs:xs.map (ev T)=avs.map some) (hAC:ACt P g args Oin Post) (hcv:AV.hds (inD Oin) (avs++caps)=args) (hOin:PassT O Oin)
  (hfr:∀ r O',Post r O'→∀ l,inD O' l=true→inD Oin l=true∨inD O l=false)
  (K:∀ r O',Post r O'→awps P c N ops rest Q ⟨(d,r)::T,O'++O⟩):awps P c N ops (o::rest) Q ⟨T,O⟩:=by
 refine qcF hg (qrf ho (by intro e he;rw [hd] at he;cases he;exact hN) hen hx hxs hcv hOin hAC hfr ?_)
 intro r O' hP;simpa [St.put,hd] using K r O' hP
theorem qg2 {t e:TypeId}{k:Nat}{zs:List Value}(l:Nat)(f:Bool)(ho:o.op=.buildSlice t 0 #[])(ht:slB P t e k=true)(hz:zvB P e=some (some zs)):Stp P c N o σ [] (.row l) [(l,.rowd e k f [])]:=by
 rintro hd σ' h2 _ hnew
 refine qlb (p0:=fun b=>.slice (some ⟨b,0,none⟩) 0 0) hd (hnew _ (List.mem_singleton.2 E)) fun a w ρ S hc=>?_
 obtain ⟨i,z,h3,h4,h5⟩:=qh3 hz
 obtain ⟨i',h6,h7,h8⟩:=qcL ht
 rw [h3] at h7;simp only [Option.some.injEq] at h7;subst h7
 refine ⟨.cells #[] e,?_,rfl,fun ρ' U' hρ hU hl hp=>⟨⟨by simp,[],⟨by simp,.inr ⟨w.heap.size,0,#[],hp,Nat.zero_le _,qfD w _,Nat.le_refl _,Nat.zero_le _,by simp,by simp⟩⟩,by simp,by simp [lift,RepL]⟩,?_⟩⟩
 ·simp only [execOp,ho]
  simp [Sem.run_bind,Instr.buildSlice,run_underlying h6 w,sizeOf,run_typeInfo w h3,h8,qhz h3 h4,Instr.fill,newRow,run_newObj_alloc]
  congr 2
  exact Array.eq_empty_of_size_eq_zero (by simp)
 ·simp only [Rep]
  exact ⟨hl,hp.symm,_,_,_,rfl⟩
end
end Go.Proofs.YtpgceiijoedppaaGreat
namespace Go.Proofs.YtpgceiijoedppaaGreat
open Go
variable {P:Program}{e t:TypeId}{k n:Nat}
def arB (P:Program)(t:TypeId)(n:Nat)(e:TypeId)(k:Nat):Bool:=
 match P.underlying t,P.info? e with
 | some (.array m e'),some i=>m==n&&e'==e&&i.size==k
 | _,_=>false
theorem qsK (h:arB P t n e k=true):∃ i,P.underlying t=some (.array n e)∧P.info? e=some i∧i.size=k:=by
 unfold arB at h
 split at h
 ·rename_i m e' i h1 h2
  simp only [Bool.and_eq_true,beq_iff_eq] at h
  obtain ⟨⟨rfl,rfl⟩,rfl⟩:=h
  exact ⟨i,h1,h2,rfl⟩
 ·cases h
section
variable {P:Program}{c:Ctx}{N:Nat}{Q:Exit→St→Prop}{σ:St}{o:Oper}
theorem qmx {parts:List (Nat×Operand)}{zs:List Value}{avs:List (Nat×List AV)}{cs:List AV}(ho:o.op=.build t parts.toArray)(hz:zvB P t=some (some zs))(h1:zs.all (·.oneCell')=true)(hp:arB P t n e k=true)
  (ha:qjw σ.T parts=some avs) (hf:qn4 (fun i=>some (i*k,k)) (zs.map .imm) avs=some cs):Stp P c N o σ [] (.agg cs) []:=by
 refine qaN fun σ' h2 _ a w ρ S hc=>?_
 obtain ⟨i,z,h3,h4,h5⟩:=qh3 hz
 obtain ⟨ie,h6,h7,h8⟩:=qsK hp
 have hP:=qg9 hc (fun p hp u hu=>h2 p.2 (by simp only [ho,Op.operands];simpa using ⟨p.1,hp⟩) u hu) ha
 obtain ⟨xs,hx,hr,hone⟩:=qiQ (pl:=fun i=>some (i*k,k)) hP (qj5 zs) (fun y hy=>(List.all_eq_true.1 h1) y hy) hf
 refine ⟨.agg xs.toArray,?_,by simp only [Rep];exact ⟨xs,rfl,hone,hr⟩⟩
 have hzc:z.cells=zs.toArray:=by rw [← h5]
 simp only [execOp,ho]
 simp only [List.map_toArray]
 simp [Sem.run_bind,Instr.build,qhz h3 h4,run_underlying h6 w,sizeOf,run_typeInfo w h7,h8,hzc,hx]
theorem qfS {x y:Operand}{l off:Nat}{q:IntKind}{i:Int}(ho:o.op=.indexAddr t x y)(ht:arB P t n e k=true)(hx:ev σ.T x=some (.ptr l off))(hy:ev σ.T y=some (.imm (.int q i)))
  (h0:0≤i) (h1':i<n):Stp P c N o σ [] (.ptr l (off+i.toNat*k)) []:=by
 refine qaN fun σ' h1 h2 a w ρ S hc=>?_
 obtain ⟨ie,h6,h7,h8⟩:=qsK ht
 have h:=qaz hc (h1 x (by simp [ho,Op.operands]) _ hx)
 have h':=qaz hc (h1 y (by simp [ho,Op.operands]) _ hy)
 simp only [Rep] at h h'
 obtain ⟨hU,b,hb,hx'⟩:=h
 refine ⟨.pointer (some ⟨b,off+i.toNat*k,none⟩),?_,by simp only [Rep];exact ⟨hU,b,hb,rfl⟩⟩
 simp only [execOp,ho,hx',h']
 simp only [Instr.indexAt,Sem.run_bind,asIntOf,Sem.run_pure,Result.andThen_ok,run_underlying h6 w,Instr.sureAddr]
 rw [if_pos ⟨h0,h1'⟩]
 simp [Sem.run_bind,sizeOf,run_typeInfo w h7,h8,qcq]
end
end Go.Proofs.YtpgceiijoedppaaGreat
namespace Go.Proofs.YtpgceiijoedppaaGreat
open Go
section
variable {P:Program}{c:Ctx}{N:Nat}{Q:Exit→St→Prop}{σ:St}{o:Oper}
theorem qbk {t e:TypeId}{n k:Nat}{parts:List (Nat×Operand)}{zs:List Value}{avs:List (Nat×List AV)}{cs:List AV}{ds:List D}(f:Bool)(ho:o.op=.buildSlice t n parts.toArray)(ht:slB P t e k=true)(hz:zvB P e=some (some zs))(h1:zs.all (·.oneCell')=true)(hzl:zs.length=k)(hk:0<k)(hn:n*k≤16777216)
  (hn0:0<n) (ha:qjw σ.T parts=some avs) (hf:qn4 (fun i=>some (i*k,k)) (List.replicate (n*k) .any) avs=some cs) (hcs:cs.length=n*k) (hds:toDs f cs=some ds) (hzk:f=true→Zsz e=k:=by first|(intro h;cases h;done)|(intro _;kernel_rfl)):Stp P c N o σ [] (.dat f k (qhm k n ds)) []:=by
 rintro hd σ' h2 _ _ a w ⟨ρ,S,hc⟩
 obtain ⟨i,z,h3,h4,h5⟩:=qh3 hz
 obtain ⟨i',h6,h7,h8⟩:=qcL ht
 rw [h3] at h7;simp only [Option.some.injEq] at h7;subst h7
 have hP:=qg9 hc (fun p hp u hu=>h2 p.2 (by simp only [ho,Op.operands];simpa using ⟨p.1,hp⟩) u hu) ha
 have hz0:((Array.range (n*k)).map (z.cells[· % z.cells.size]!)).toList.length=n*k:=by simp
 have hr0:=qmB (w:=w) (ρ:=ρ) (S:=S) (U:=σ'.U) ((Array.range (n*k)).map (z.cells[· % z.cells.size]!)).toList
 rw [hz0] at hr0
 obtain ⟨xs,hx,hr,hone⟩:=qiQ (pl:=fun i=>some (i*k,k)) hP hr0 (qnl h1 _ z h5 (by omega)) hf
 have hxl:=hr.length
 have hrun:(Instr.buildSlice t n (parts.map fun (p:Nat×Operand)=>(p.1,a.eval p.2)).toArray).run P w=.ok (.slice (some ⟨w.heap.size,0,none⟩) n n) (w.alloc (.cells xs.toArray e)):=by
  have hpos:0<n*k:=Nat.mul_pos hn0 hk
  have hx':Instr.fill (fun i=>some (i*k,k)) ((Array.range (n*k)).map (z.cells[· % z.cells.size]!)) (parts.map fun (p:Nat×Operand)=>(p.1,a.eval p.2))=some xs.toArray:=by rw [← hx]
  simp only [Instr.buildSlice,Sem.run_bind,run_underlying h6 w,Result.andThen_ok,sizeOf,run_typeInfo w h3,Sem.run_pure,h8]
  rw [if_neg (by omega),if_neg (by omega)]
  simp only [Sem.run_bind,qhz h3 h4,Result.andThen_ok,Sem.run_pure]
  rw [hx']
  simp [newRow,Sem.run_bind,run_newObj_alloc]
 have hrun2:(execOp a.eval o).run P w=.ok (.value (.slice (some ⟨w.heap.size,0,none⟩) n n)) (w.alloc (.cells xs.toArray e)):=by
  simp only [execOp,ho]
  simp only [List.map_toArray]
  simp [Sem.run_bind,hrun]
 unfold Oper.wp
 rw [hrun2]
 have hw0:=hc.fm.size
 have hle:n≤n*k:=Nat.le_mul_of_pos_right n hk
 have hmx:n≤maxLen:=by simp only [maxLen];omega
 have hg:Conc c N ⟨σ'.T,σ'.O⟩ a (w.alloc (.cells xs.toArray e)) ρ S:=hc.grow (Far.alloc (fun _=>False) w _) (fun _ _ _ h=>h) (fun _ _ _ _ _ _ h=>h) (fun _ _ h=>h.elim)
 let S':Bool→Nat→Prop:=fun g b=>S g b∨(g=f∧b=w.heap.size)
 have hS:∀ g b,S g b→S' g b:=fun g b h=>.inl h
 have hsz:(w.alloc (.cells xs.toArray e)).heap.size=w.heap.size+1:=qgq w _
 have hS2:Conc c N ⟨σ'.T,σ'.O⟩ a (w.alloc (.cells xs.toArray e)) ρ S':=
  ⟨hg.tm,hg.df,fun t v ht=>(hg.T t v ht).mono hS (fun _ _ _=>rfl) (fun _ h=>h) (fun _ _=>rfl),
   fun l o hl=>(hg.O l o hl).mono hS (fun _ _ _=>rfl) (fun _ h=>h) (fun _ _=>rfl) (by simp [St.U,hl]) (fun _ _=>rfl),
   hg.dj,fun l o b g hl hv hb hs=>by
    rcases hs with hs|⟨_,rfl⟩
    ·exact hg.dS l o b g hl hv hb hs
    ·exact Nat.lt_irrefl _ (hc.lt l o _ hl hv hb),
   hg.wr,hg.lt,fun b hb=>by
    obtain ⟨h3|⟨h3,e3⟩,h4|⟨h4,e4⟩⟩:=hb
    ·exact hg.SS b ⟨h3,h4⟩
    ·exact Nat.lt_irrefl _ (e4▸hc.Sb true b h3)
    ·exact Nat.lt_irrefl _ (e3▸hc.Sb false b h4)
    ·exact absurd (h3.trans h4.symm) zD,
   fun g b hb=>by
    rcases hb with hb|⟨_,rfl⟩
    ·exact hg.Sb g b hb
    ·rw [hsz];omega,
   fun b hb=>by
    rcases hb with hb|⟨_,rfl⟩
    ·exact hg.Sn b hb
    ·exact .inr hw0,
   fun b hb=>by
    rcases hb with hb|⟨_,rfl⟩
    ·exact hg.So b hb
    ·exact .inr hw0,
   hg.lo,hg.fm.mono (fun g b h=>⟨g,hS g b h⟩) (fun b h=>h.imp id fun h=>⟨xs.toArray,e,by obtain ⟨_,h2⟩:=h;subst h2;exact qfD w _⟩)⟩
 have how:(w.alloc (.cells xs.toArray e)).ownsRow 0 e k (.slice (some ⟨w.heap.size,0,none⟩) n n) n xs:=
  ⟨by omega,.inr ⟨w.heap.size,n,xs.toArray,rfl,Nat.zero_le _,qfD w _,Nat.le_refl _,hmx,by simp;omega,by simp;rw [List.take_of_length_le (by omega)]⟩⟩
 have e1:=qg0 hds
 have hdl:ds.length=n*k:=by rw [← hcs,e1];simp [lift]
 obtain ⟨c1,c2,c3⟩:=qjn k n ds hdl
 have hv:Rep (w.alloc (.cells xs.toArray e)) ρ S' (St.U ⟨σ'.T,σ'.O⟩) (.dat f k (qhm k n ds)) (.slice (some ⟨w.heap.size,0,none⟩) n n):=by
  simp only [Rep,RepD]
  refine ⟨some ⟨w.heap.size,0,none⟩,n,n,rfl,c2.symm,Nat.le_refl _,hmx,.inr ⟨w.heap.size,0,rfl,.inr ⟨rfl,rfl⟩,fun hf=>⟨Nat.zero_mod _,_,_,_,qfD w _,hzk hf⟩,?_⟩⟩
  have hr2:RepL (w.alloc (.cells xs.toArray e)) ρ S' (St.U ⟨σ'.T,σ'.O⟩) (lift f (qhm k n ds).flatten) xs:=by
   rw [c1,← e1]
   exact hr.mono hS (fun g b hb=>(Far.alloc (fun _=>False) w _).block b (hc.Sb g b hb) (fun h=>h)) (fun _ h=>h) (fun _ _=>rfl)
  exact qiv (b:=w.heap.size) (fun _ _=>trivial) (off:=0) c3 hr2 hone (fun j u hu=>by rw [Nat.zero_add];exact qb8 how E j u hu)
 have:=hS2.put (dst:=o.dst) hd hv
 refine ⟨_,⟨ρ,S',this⟩,?_⟩
 cases o.dst<;>simp [St.put,St.add]
end
end Go.Proofs.YtpgceiijoedppaaGreat