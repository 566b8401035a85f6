/- Part 2 of the proof: SymD, SymE, SymF. -/
import Derived.Test.YtpgceiijoedppaaGreatC1
import Derived.Maps.AppendAt
set_option linter.unusedVariables false
set_option linter.unusedSimpArgs false
namespace Go.Proofs.YtpgceiijoedppaaGreat
open Go
variable {S:Bool→Nat→Prop}{W:Nat→Prop}{a:Act}{b:Bool}{l n off:Nat}{p:Value}{t:TypeId}{w w' w1 w2:World}{x:Operand}{zs:List Value}{α:Type}{ρ:Nat→Value}{cs vs:List α}
section
variable {P:Program}{c:Ctx}{N:Nat}{Q:Exit→St→Prop}{σ:St}{o:Oper}
theorem Far.refl (W:Nat→Prop)(w:World):Far W w w:=⟨rfl,rfl,rfl,Nat.le_refl _,fun _ _ _=>rfl,Nat.le_refl _⟩
theorem Far.trans {w3:World}(h:Far W w1 w2)(k:Far W w2 w3):Far W w1 w3:=
 ⟨k.os.trans h.os,k.tape.trans h.tape,k.output.trans h.output,Nat.le_trans h.size k.size,fun b hb hw=>(k.block b (Nat.lt_of_lt_of_le hb h.size) hw).trans (h.block b hb hw),Nat.le_trans h.dr k.dr⟩
theorem Far.mono {W':Nat→Prop}(h:Far W w1 w2)(hW:∀ b,b<w1.heap.size→W b→W' b):Far W' w1 w2:=
 ⟨h.os,h.tape,h.output,h.size,fun b hb hw=>h.block b hb fun h'=>hw (hW b hb h'),h.dr⟩
theorem Far.step {W':Nat→Prop}{w3:World}(h:Far W w1 w2)(k:Far W' w2 w3)(hW:∀ b,b<w1.heap.size→W' b→W b):Far W w1 w3:=
 ⟨k.os.trans h.os,k.tape.trans h.tape,k.output.trans h.output,Nat.le_trans h.size k.size,fun b hb hw=>(k.block b (Nat.lt_of_lt_of_le hb h.size) (fun h'=>hw (hW b hb h'))).trans (h.block b hb hw),Nat.le_trans h.dr k.dr⟩
theorem qgq (w:World)(x:Obj):(w.alloc x).heap.size=w.heap.size+1:=by
 show (w.heap.push x).size=_
 simp
theorem Far.alloc (W:Nat→Prop)(w:World)(x:Obj):Far W w (w.alloc x):=
 ⟨rfl,rfl,rfl,by rw [qgq];omega,fun b hb _=>heap_alloc_old w x hb,Nat.le_refl _⟩
theorem Far.drew (W:Nat→Prop)(w:World):Far W w w.drew:=⟨rfl,rfl,rfl,Nat.le_refl _,fun _ _ _=>rfl,Nat.le_succ _⟩
theorem Conc.grow0 (h:Conc c N σ a w ρ S)(hf:Far0 W w w')(hd:c.D→w.drawn≤w'.drawn)(hS:∀ f b,S f b→¬ W b)(hO:∀ l ob b,ok σ.O l=some ob→ob.live→blk (ρ l)=some b→¬ W b)
  (hW:∀ b,b<c.w0.heap.size→W b→c.W b):Conc c N σ a w' ρ S:=by
 have hSw:∀ f b,S f b→w'.heap[b]?=w.heap[b]?:=fun f b hb=>hf.block b (h.Sb f b hb) (hS f b hb)
 refine ⟨h.tm,h.df,fun t v ht=>(h.T t v ht).mono (fun _ _ h=>h) hSw (fun _ h=>h) (fun _ _=>rfl),fun l ob hl=>?_,h.dj,h.dS,h.wr,fun l ob b h1 h2 h3=>Nat.lt_of_lt_of_le (h.lt l ob b h1 h2 h3) hf.size,h.SS,fun f b hb=>Nat.lt_of_lt_of_le (h.Sb f b hb) hf.size,h.Sn,h.So,h.lo,h.fm.grow hf hd (fun f b h=>⟨f,h⟩) hSw (fun _ h=>.inl h) hW⟩
 by_cases hv:ob.live
 ·exact (h.O l ob hl).mono (fun _ _ h=>h) hSw (fun _ h=>h) (fun _ _=>rfl) (by simp [St.U,hl]) (fun b hb=>hf.block b (h.lt l ob b hl hv hb) (hO l ob b hl hv hb))
 ·cases ob<;>simp [Ob.live] at hv;trivial
theorem Conc.grow (h:Conc c N σ a w ρ S)(hf:Far W w w')(hS:∀ f b,S f b→¬ W b)(hO:∀ l ob b,ok σ.O l=some ob→ob.live→blk (ρ l)=some b→¬ W b)
 (hW:∀ b,b<c.w0.heap.size→W b→c.W b):Conc c N σ a w' ρ S:=h.grow0 hf.far0 (fun _=>hf.dr) hS hO hW
theorem qet {ob:Ob}{T:List (Nat×AV)}{O:List (Nat×Ob)}(m:Nat)(h:St.U ⟨T,O⟩ m):St.U ⟨T,(l,ob)::O⟩ m:=by
 simp only [St.U,qa0] at h ⊢
 split
 ·rfl
 ·exact h
def upd (ρ:Nat→Value)(l:Nat)(p:Value):Nat→Value:=fun m=>if m=l then p else ρ m
theorem qbY (ρ:Nat→Value)(l:Nat)(p:Value):upd ρ l p l=p:=by simp [upd]
theorem qbz {m:Nat}(h:m≠l):upd ρ l p m=ρ m:=by simp [upd,h]
theorem Conc.addOb {T:List (Nat×AV)}{O:List (Nat×Ob)}(h:Conc c N ⟨T,O⟩ a w ρ S)(hl:ok O l=none){ob:Ob}
  (hb:∀ b,blk p=some b→b<w.heap.size∧c.w0.heap.size≤b∧(∀ f,¬ S f b)∧∀ m om,ok O m=some om→om.live→blk (ρ m)≠some b)
  (hob:ObOk w (upd ρ l p) S (St.U ⟨T,(l,ob)::O⟩) l ob):Conc c N ⟨T,(l,ob)::O⟩ a w (upd ρ l p) S:=by
 have hne:∀ m om,ok O m=some om→m≠l:=fun m om hm e=>by subst e;rw [hl] at hm;cases hm
 have hρ:∀ m,St.U ⟨T,O⟩ m→upd ρ l p m=ρ m:=fun m hm=>qbz fun e=>by subst e;simp [St.U,hl] at hm
 have hsp:∀ m om,ok ((l,ob)::O) m=some om→(m=l∧om=ob)∨(m≠l∧ok O m=some om):=fun m om hm=>by
  rw [qa0] at hm
  split at hm
  ·rename_i e;exact .inl ⟨e.symm,by simpa using hm.symm⟩
  ·rename_i e;exact .inr ⟨fun e'=>e e'.symm,hm⟩
 refine ⟨h.tm,h.df,fun t v ht=>(h.T t v ht).mono (fun _ _ h=>h) (fun _ _ _=>rfl) qet hρ,fun m om hm=>?_,fun m m' om om' b h1 h2 h3 h4 h5 h6=>?_,fun m om b f h1 h2 h3=>?_,fun m om b h1 h2 h3=>?_,fun m om b h1 h2 h3=>?_,h.SS,h.Sb,h.Sn,h.So,fun m hm=>?_,h.fm⟩
 ·rcases hsp m om hm with ⟨rfl,rfl⟩|⟨hne',hm'⟩
  ·exact hob
  ·exact (h.O m om hm').mono (fun _ _ h=>h) (fun _ _ _=>rfl) qet hρ (by simp [St.U,hm']) (fun _ _=>rfl)
 ·rcases hsp m om h1 with ⟨e1,e2⟩|⟨n1,k1⟩<;>rcases hsp m' om' h2 with ⟨e3,e4⟩|⟨n2,k2⟩
  ·rw [e1,e3]
  ·rw [e1,qbY] at h5;rw [qbz n2] at h6;exact absurd h6 ((hb b h5).2.2.2 m' om' k2 h4)
  ·rw [e3,qbY] at h6;rw [qbz n1] at h5;exact absurd h5 ((hb b h6).2.2.2 m om k1 h3)
  ·rw [qbz n1] at h5;rw [qbz n2] at h6;exact h.dj m m' om om' b k1 k2 h3 h4 h5 h6
 ·rcases hsp m om h1 with ⟨rfl,rfl⟩|⟨n1,h1⟩
  ·rw [qbY] at h3;exact (hb b h3).2.2.1 f
  ·rw [qbz n1] at h3;exact h.dS m om b f h1 h2 h3
 ·rcases hsp m om h1 with ⟨rfl,rfl⟩|⟨n1,h1⟩
  ·rw [qbY] at h3;exact .inl (hb b h3).2.1
  ·rw [qbz n1] at h3;exact h.wr m om b h1 h2 h3
 ·rcases hsp m om h1 with ⟨rfl,rfl⟩|⟨n1,h1⟩
  ·rw [qbY] at h3;exact (hb b h3).1
  ·rw [qbz n1] at h3;exact h.lt m om b h1 h2 h3
 ·obtain ⟨h1,h2⟩:=h.lo m hm
  have hne':m≠l:=fun e=>by subst e;simp [hl] at h1
  refine ⟨?_,by rw [qbz hne'];exact h2⟩
  simp only [qa0]
  rw [if_neg (fun e=>hne' e.symm)];exact h1
theorem Conc.modOb {T:List (Nat×AV)}{O:List (Nat×Ob)}(h:Conc c N ⟨T,O⟩ a w ρ S){ob ob':Ob}(hl:ok O l=some ob)(hv:ob.live)
  (hf:Far (fun b=>blk (ρ l)=some b) w w') (hob:ObOk w' ρ S (St.U ⟨T,(l,ob')::O⟩) l ob'):Conc c N ⟨T,(l,ob')::O⟩ a w' ρ S:=by
 have hSw:∀ f b,S f b→w'.heap[b]?=w.heap[b]?:=fun f b hb=>hf.block b (h.Sb f b hb) (fun e=>h.dS l ob b f hl hv e hb)
 have hsp:∀ m om,ok ((l,ob')::O) m=some om→(m=l∧om=ob')∨(m≠l∧ok O m=some om):=fun m om hm=>by
  rw [qa0] at hm
  split at hm
  ·rename_i e;exact .inl ⟨e.symm,by simpa using hm.symm⟩
  ·rename_i e;exact .inr ⟨fun e'=>e e'.symm,hm⟩
 refine ⟨h.tm,h.df,fun t v ht=>(h.T t v ht).mono (fun _ _ h=>h) hSw qet (fun _ _=>rfl),fun m om hm=>?_,fun m m' om om' b h1 h2 h3 h4 h5 h6=>?_,fun m om b f h1 h2 h3=>?_,fun m om b h1 h2 h3=>?_,fun m om b h1 h2 h3=>?_,h.SS,fun f b hb=>Nat.lt_of_lt_of_le (h.Sb f b hb) hf.size,h.Sn,h.So,fun m hm=>?_,h.fm.grow hf.far0 (fun _=>hf.dr) (fun f b h=>⟨f,h⟩) hSw (fun _ h=>.inl h) fun b hb e=>?_⟩
 ·rcases hsp m om hm with ⟨rfl,rfl⟩|⟨hne',hm'⟩
  ·exact hob
  ·by_cases hv':om.live
   ·exact (h.O m om hm').mono (fun _ _ h=>h) hSw qet (fun _ _=>rfl) (by simp [St.U,hm']) (fun b hb=>hf.block b (h.lt m om b hm' hv' hb) (fun e=>hne' (h.dj m l om ob b hm' hl hv' hv hb e)))
   ·cases om<;>simp [Ob.live] at hv';trivial
 ·rcases hsp m om h1 with ⟨e1,e2⟩|⟨n1,k1⟩<;>rcases hsp m' om' h2 with ⟨e3,e4⟩|⟨n2,k2⟩
  ·rw [e1,e3]
  ·rw [e1] at h5 ⊢;exact h.dj l m' ob om' b hl k2 hv h4 h5 h6
  ·rw [e3] at h6 ⊢;exact h.dj m l om ob b k1 hl h3 hv h5 h6
  ·exact h.dj m m' om om' b k1 k2 h3 h4 h5 h6
 ·rcases hsp m om h1 with ⟨rfl,rfl⟩|⟨n1,h1⟩
  ·exact h.dS m ob b f hl hv h3
  ·exact h.dS m om b f h1 h2 h3
 ·rcases hsp m om h1 with ⟨rfl,rfl⟩|⟨n1,h1⟩
  ·exact h.wr m ob b hl hv h3
  ·exact h.wr m om b h1 h2 h3
 ·rcases hsp m om h1 with ⟨rfl,rfl⟩|⟨n1,h1⟩
  ·exact Nat.lt_of_lt_of_le (h.lt m ob b hl hv h3) hf.size
  ·exact Nat.lt_of_lt_of_le (h.lt m om b h1 h2 h3) hf.size
 ·obtain ⟨h1,h2⟩:=h.lo m hm
  refine ⟨?_,h2⟩
  simp only [qa0]
  split
  ·rfl
  ·exact h1
 ·rcases h.wr l ob b hl hv e with h1|h1
  ·omega
  ·exact h1.2
def AV.cellsOf:AV→Option (List AV)
 | .any=>none
 | .tup _=>none
 | .agg cs=>some cs
 | .imm v=>match v with
   | .agg _=>none
   | .tuple _=>none
   | v=>some [.imm v]
 | v=>some [v]
theorem qey {U:Nat→Prop}{v:AV}{x:Value}{cs:List AV}(h:v.cellsOf=some cs)(hr:Rep w ρ S U v x):
   ∃ xs:List Value,x.cells=xs.toArray∧(∀ y∈xs,y.oneCell'=true)∧RepL w ρ S U cs xs:=by
 have one:∀ u:AV,cs=[u]→Rep w ρ S U u x→x.oneCell'=true→x.cells=#[x]→∃ xs:List Value,x.cells=xs.toArray∧(∀ y∈xs,y.oneCell'=true)∧RepL w ρ S U cs xs:=by
   rintro u rfl hu h1 hc
   exact ⟨[x],by simp [hc],by simpa using h1,by simp only [RepL];exact ⟨x,[],rfl,hu,rfl⟩⟩
 cases v with
 | any=>simp [AV.cellsOf] at h
 | tup vs=>simp [AV.cellsOf] at h
 | agg az=>
   simp only [AV.cellsOf,Option.some.injEq] at h;subst h
   simp only [Rep] at hr
   obtain ⟨xs,rfl,h1,h2⟩:=hr
   exact ⟨xs,rfl,h1,h2⟩
 | imm u=>
   have hx:=hr
   simp only [Rep] at hx;subst hx
   cases x<;>simp only [AV.cellsOf,Option.some.injEq,reduceCtorEq] at h<;>first|exact h.elim|exact one _ h.symm hr E E
 | dat f k es=>
   simp only [AV.cellsOf,Option.some.injEq] at h
   have hr':=hr
   simp only [Rep,RepD] at hr'
   obtain ⟨A,n,cap,rfl,_⟩:=hr'
   exact one _ h.symm hr E E
 | ptr l off=>
   simp only [AV.cellsOf,Option.some.injEq] at h
   have hr':=hr
   simp only [Rep] at hr'
   obtain ⟨_,b,_,rfl⟩:=hr'
   exact one _ h.symm hr E E
 | elp f ds=>
   simp only [AV.cellsOf,Option.some.injEq] at h
   have hr':=hr
   simp only [Rep] at hr'
   obtain ⟨b,off,rfl,_⟩:=hr'
   exact one _ h.symm hr E E
 | fn f caps=>
   simp only [AV.cellsOf,Option.some.injEq] at h
   have hr':=hr
   simp only [Rep] at hr'
   obtain ⟨xs,rfl,_⟩:=hr'
   exact one _ h.symm hr E E
 | row l=>
   simp only [AV.cellsOf,Option.some.injEq] at h
   have hr':=hr
   simp only [Rep] at hr'
   obtain ⟨_,_,A,n,cap,rfl⟩:=hr'
   exact one _ h.symm hr E E
 | map l=>
   simp only [AV.cellsOf,Option.some.injEq] at h
   have hr':=hr
   simp only [Rep] at hr'
   obtain ⟨_,_,r,rfl⟩:=hr'
   exact one _ h.symm hr E E
 | vw l off n c=>
   simp only [AV.cellsOf,Option.some.injEq] at h
   have hr':=hr
   simp only [Rep] at hr'
   obtain ⟨_,b,_,rfl⟩:=hr'
   exact one _ h.symm hr E E
theorem qlb {σ':St}{v:AV}{ob:Ob}{p0:Nat→Value}(hd:∀ d,o.dst=some d→d<N)(hl:ok σ'.O l=none)
  (h:∀ a w ρ S,Conc c N σ' a w ρ S→∃ obj,(execOp a.eval o).run P w=.ok (.value (p0 w.heap.size)) (w.alloc obj)∧blk (p0 w.heap.size)=some w.heap.size∧
   ∀ ρ' U',(∀ m,σ'.U m→ρ' m=ρ m)→(∀ m,σ'.U m→U' m)→U' l→ρ' l=p0 w.heap.size→ObOk (w.alloc obj) ρ' S U' l ob∧Rep (w.alloc obj) ρ' S U' v (p0 w.heap.size)):
  AOp P c N o σ' (fun σ2=>σ2=σ'.add o.dst v [(l,ob)]):=by
 rintro a w ⟨ρ,S,hc⟩
 obtain ⟨obj,hr,hp,hob⟩:=h a w ρ S hc
 unfold Oper.wp
 rw [hr]
 have hw0:=hc.fm.size
 have hg:Conc c N ⟨σ'.T,σ'.O⟩ a (w.alloc obj) ρ S:=hc.grow (Far.alloc (fun _=>False) w obj) (fun _ _ _ h=>h) (fun _ _ _ _ _ _ h=>h) (fun _ _ h=>h.elim)
 have hρ:∀ m,σ'.U m→upd ρ l (p0 w.heap.size) m=ρ m:=fun m hm=>qbz fun e=>by subst e;simp [St.U,hl] at hm
 have hk:=hob (upd ρ l (p0 w.heap.size)) (St.U ⟨σ'.T,(l,ob)::σ'.O⟩) hρ (fun m hm=>qet m hm) (by simp [St.U,qa0]) (qbY ρ l _)
 have ha:Conc c N ⟨σ'.T,(l,ob)::σ'.O⟩ a (w.alloc obj) (upd ρ l (p0 w.heap.size)) S:=by
  refine hg.addOb hl (fun b hb=>?_) hk.1
  rw [hp] at hb;simp only [Option.some.injEq] at hb;subst hb
  refine ⟨by rw [qgq];omega,hw0,fun f hS=>Nat.lt_irrefl _ (hc.Sb f _ hS),fun m om hm hv e=>Nat.lt_irrefl _ (hc.lt m om _ hm hv e)⟩
 have:=ha.put (dst:=o.dst) hd hk.2
 refine ⟨_,⟨_,_,this⟩,?_⟩
 cases o.dst<;>simp [St.put,St.add]
theorem qfD (w:World)(x:Obj):(w.alloc x).heap[w.heap.size]?=some x:=heap_alloc_new w x
theorem qlP (w:World)(t:TypeId)(v:Value):(newVar t v).run P w=.ok ⟨w.heap.size,0,none⟩ (w.alloc (.cells v.cells t)):=by
 simp [newVar,newRow,Sem.run_bind,run_newObj_alloc]
theorem q6 {v:AV}{cs:List AV}(l:Nat)(ho:o.op=.box t x)(hx:ev σ.T x=some v)(hv:v.cellsOf=some cs):Stp P c N o σ [] (.ptr l 0) [(l,.box cs)]:=by
 rintro hd σ' h1 h2 hn
 refine qlb (p0:=fun b=>.pointer (some ⟨b,0,none⟩)) hd (hn _ (List.mem_singleton.2 E)) fun a w ρ S hc=>?_
 have h:=qaz hc (h1 x (by simp [ho,Op.operands]) _ hx)
 obtain ⟨xs,hxs,h3,hr⟩:=qey hv h
 refine ⟨.cells (a.eval x).cells t,?_,rfl,fun ρ' U' hρ hU hl hp=>⟨⟨w.heap.size,t,xs,hp,by rw [qfD,hxs],h3,hr.mono (fun _ _ h=>h) (fun f b hb=>(Far.alloc (fun _=>False) w _).block b (hc.Sb f b hb) (fun h=>h)) hU hρ⟩,?_⟩⟩
 ·simp only [execOp,ho,Instr.box]
  simp [Sem.run_bind,qlP]
 ·simp only [Rep]
  exact ⟨hl,_,by rw [hp];rfl,rfl⟩
def zvB (P:Program)(t:TypeId):Option (Option (List Value)):=(P.info? t).map fun i=>i.zero.map fun z=>z.cells.toList
theorem qh3 (h:zvB P t=some (some zs)):∃ i z,P.info? t=some i∧i.zero=some z∧z.cells.toList=zs:=by
 unfold zvB at h
 cases hi:P.info? t with
 | none=>simp [hi] at h
 | some i=>
   cases hz:i.zero with
   | none=>simp [hi,hz] at h
   | some z=>exact ⟨i,z,rfl,hz,by simpa [hi,hz] using h⟩
theorem qhz {i:TypeInfo}{z:Value}(h1:P.info? t=some i)(h2:i.zero=some z)(w:World):(zeroValue t).run P w=.ok z w:=by
 simp [zeroValue,Sem.run_bind,run_typeInfo w h1,h2]
theorem qj5 {w:World}{ρ:Nat→Value}{S:Bool→Nat→Prop}{U:Nat→Prop}:∀ zs:List Value,RepL w ρ S U (zs.map AV.imm) zs
 | []=>by simp [RepL]
 | z::zs=>by simp only [List.map_cons,RepL];exact ⟨z,zs,rfl,by simp [Rep],qj5 zs⟩
theorem qat (l:Nat)(ho:o.op=.alloc t)(hz:zvB P t=some (some zs))(h1:zs.all (·.oneCell')=true):Stp P c N o σ [] (.ptr l 0) [(l,.box (zs.map .imm))]:=by
 rintro hd σ' _ _ hn
 refine qlb (p0:=fun b=>.pointer (some ⟨b,0,none⟩)) hd (hn _ (List.mem_singleton.2 E)) fun a w ρ S hc=>?_
 obtain ⟨i,z,h2,h3,h4⟩:=qh3 hz
 refine ⟨.cells z.cells t,?_,rfl,fun ρ' U' hρ hU hl hp=>⟨⟨w.heap.size,t,zs,hp,by rw [qfD,← h4],fun y hy=>(List.all_eq_true.1 h1) y hy,qj5 zs⟩,?_⟩⟩
 ·simp only [execOp,ho,Instr.alloc]
  simp [Sem.run_bind,qhz h2 h3,qlP]
 ·simp only [Rep]
  exact ⟨hl,_,by rw [hp];rfl,rfl⟩
def Ob.with:Ob→List AV→Ob
 | .box _,cs=>.box cs
 | .row e k _,cs=>.row e k cs
 | o,_=>o
def qau {α:Type}(cs:List α)(off:Nat)(vs:List α):List α:=cs.take off++vs++cs.drop (off+vs.length)
theorem qa9 (h:off+vs.length≤cs.length):(qau cs off vs).length=cs.length:=by
 simp [qau];omega
theorem qbu (h:off+vs.length≤cs.length)(i:Nat):(qau cs off vs)[i]?=if i<off then cs[i]? else if i<off+vs.length then vs[i-off]? else cs[i]?:=by
 simp only [qau]
 have ht:(cs.take off).length=off:=by simp;omega
 by_cases h1:i<off
 ·rw [if_pos h1,List.append_assoc,List.getElem?_append_left (by omega),List.getElem?_take_of_lt h1]
 ·rw [if_neg h1,List.append_assoc,List.getElem?_append_right (by omega),ht]
  by_cases h2:i<off+vs.length
  ·rw [if_pos h2,List.getElem?_append_left (by omega)]
  ·rw [if_neg h2,List.getElem?_append_right (by omega),List.getElem?_drop]
   congr 1
   omega
theorem qkr {cur:List α}{m:Nat}(h:off+vs.length≤m)(hm:m≤cur.length):(qau cur off vs).take m=qau (cur.take m) off vs:=by
 apply List.ext_getElem?
 intro i
 rw [List.getElem?_take,qbu (by omega),qbu (by simp;omega)]
 by_cases h1:i<m
 ·simp only [h1,if_true]
  rw [List.getElem?_take_of_lt h1]
 ·rw [if_neg h1,if_neg (by omega),if_neg (by omega)]
  symm
  apply List.getElem?_eq_none
  simp;omega
theorem qdA (ht:tfB P t b n=true)(w:World)(g off:Nat)(ty:TypeId)(v:Value)(xs ys:List Value)(hv:v.cells=xs.toArray)(h1:∀ y∈xs,y.oneCell'=true)(hl:xs.length=n)(hg:w.heap[g]?=some (.cells ys.toArray ty (0,0)))(hn:off+n≤ys.length):
  (storeVar t ⟨g,off,none⟩ v).run P w=.ok () (w.setRow g (qau ys off xs).toArray):=by
 obtain ⟨d,i,h2,h3,h4,h5,h6⟩:=qmo ht
 have:=run_storeCells_at (P:=P) g off ty xs 0 ys.toArray w hg (by simp;omega) h1
 simp only [Nat.add_zero] at this
 simp [storeVar,Sem.run_bind,sizeOf,run_typeInfo w h3,hv,h5,hl,this,qau]
theorem qeC (w:World)(g:Nat)(xs:Array Value):Far (fun b=>some g=some b) w (w.setRow g xs):=
 ⟨rfl,rfl,rfl,by simp,fun b hb hne=>setRow_other w g b xs (fun e=>hne (by rw [e])),Nat.le_refl _⟩
theorem qot {y:Operand}{ob:Ob}{v:AV}{vs:List AV}{T:List (Nat×AV)}{O:List (Nat×Ob)}(ho:o.op=.store t x y)(hd:o.dst=none)(ht:tfB P t b n=true)(hx:ev T x=some (.ptr l off))(hl:ok O l=some ob)
   (hy:ev T y=some v) (hv:v.cellsOf=some vs) (hn:vs.length=n) (hoff:off+n≤ob.cells.length) (h0:0<n) (hnd:∀ e k f es,ob≠.rowd e k f es):AOp P c N o ⟨T,O⟩ (fun σ2=>σ2=⟨T,(l,ob.with (qau ob.cells off vs))::O⟩):=by
 rintro a w ⟨ρ,S,hc⟩
 obtain ⟨g,hg,hx'⟩:=qgC hc hx
 have hy':=qaz hc hy
 obtain ⟨xs,hxs,h1,hr⟩:=qey hv hy'
 have hlen:=hr.length
 have hob:=hc.O l ob hl
 have hlive:ob.live:=by cases ob<;>simp [Ob.live,Ob.cells] at hoff ⊢<;>omega
 have hput:a.put o.dst undef=a:=by rw [hd];rfl
 have key:∀ w',(storeVar t ⟨g,off,none⟩ (a.eval y)).run P w=.ok () w'→Far (fun b=>blk (ρ l)=some b) w w'→ObOk w' ρ S (St.U ⟨T,(l,ob.with (qau ob.cells off vs))::O⟩) l (ob.with (qau ob.cells off vs))→
    o.wp P a w (fun a' w'=>∃ σ',C c N σ' a' w'∧σ'=⟨T,(l,ob.with (qau ob.cells off vs))::O⟩) (fun _ _ _=>False):=by
   intro w' hr hf hob'
   unfold Oper.wp
   have:(execOp a.eval o).run P w=.ok .skip w':=by
    simp only [execOp,ho,Instr.storeAt,hx',Instr.sureAddr]
    simp [Sem.run_bind,hr]
   rw [this]
   refine ⟨_,⟨ρ,S,?_⟩,rfl⟩
   rw [hput]
   exact hc.modOb hl hlive hf hob'
 have hrU:∀ w' ob',Far (fun b=>blk (ρ l)=some b) w w'→∀ us zs,RepL w ρ S (St.U ⟨T,O⟩) us zs→RepL w' ρ S (St.U ⟨T,(l,ob')::O⟩) us zs:=fun w' ob' hf us zs h=>
   h.mono (fun _ _ h=>h) (fun f b hb=>hf.block b (hc.Sb f b hb) (fun e=>hc.dS l ob b f hl hlive e hb)) qet (fun _ _=>rfl)
 cases ob with
 | box cs=>
   obtain ⟨b',ty,ys,h2,h3,h4,h5⟩:=hob
   rw [h2] at hg;simp only [blk,Option.some.injEq] at hg;subst hg
   have hl5:=h5.length
   simp only [Ob.cells] at hoff
   have hf:Far (fun b=>blk (ρ l)=some b) w (w.setRow b' (qau ys off xs).toArray):=by
    rw [h2];exact qeC w b' _
   refine key _ (qdA ht w b' off ty _ xs ys hxs h1 zO h3 zO) hf ⟨b',ty,qau ys off xs,h2,setRow_heap w b' _ _ ty _ h3,?_,?_⟩
   ·intro y hy
    simp only [qau,List.mem_append] at hy
    rcases hy with (hy|hy)|hy
    ·exact h4 y (List.mem_of_mem_take hy)
    ·exact h1 y hy
    ·exact h4 y (List.mem_of_mem_drop hy)
   ·refine hrU _ _ hf _ _ ?_
    simp only [Ob.cells,qau]
    rw [hlen]
    exact ((h5.take off).append hr).append (h5.drop _)
 | row e k cs=>
   obtain ⟨m,ys,h2,h3,h4⟩:=hob
   obtain ⟨cap,cur,h5,h6,h7,h8,h9,h10,h11⟩:=qfY h2 hg
   have hl4:=h4.length
   simp only [Ob.cells] at hoff
   have h6':w.heap[g]?=some (.cells cur.toList.toArray e (0,0)):=by simpa using h6
   have hcl:cur.toList.length=cap*k:=by simpa using h9
   have hmk:m*k≤cap*k:=Nat.mul_le_mul_right k h7
   have hf:Far (fun b=>blk (ρ l)=some b) w (w.setRow g (qau cur.toList off xs).toArray):=by
    rw [h5];exact qeC w g _
   refine key _ (qdA ht w g off e _ xs cur.toList hxs h1 zO h6' zO) hf ⟨m,qau ys off xs,?_,?_,?_⟩
   ·refine ⟨by rw [qa9 zO];exact h11,.inr ⟨g,cap,(qau cur.toList off xs).toArray,h5,Nat.zero_le _,setRow_heap w g _ _ e _ h6,h7,h8,?_,?_⟩⟩
    ·simp only [List.size_toArray];rw [qa9 (by omega)];exact hcl
    ·simp only []
     rw [qkr (by omega) (by omega),h10]
   ·intro y hy
    simp only [qau,List.mem_append] at hy
    rcases hy with (hy|hy)|hy
    ·exact h3 y (List.mem_of_mem_take hy)
    ·exact h1 y hy
    ·exact h3 y (List.mem_of_mem_drop hy)
   ·refine hrU _ _ hf _ _ ?_
    simp only [Ob.cells,qau]
    rw [hlen]
    exact ((h4.take off).append hr).append (h4.drop _)
 | rowd e k f es=>exact absurd E (hnd e k f es)
 | mp P k ks=>simp [Ob.cells] at hoff;omega
 | arr e k f es=>simp [Ob.cells] at hoff;omega
 | mx it P k kvs cur=>simp [Ob.cells] at hoff;omega
 | dead=>simp [Ob.cells] at hoff;omega
end
end Go.Proofs.YtpgceiijoedppaaGreat
namespace Go.Proofs.YtpgceiijoedppaaGreat
open Go
variable {parts:List (Nat×Operand)}{t:TypeId}{zs:List Value}
mutual
def AV.allL (p:Nat→Bool):AV→Bool
 | .any=>true
 | .imm _=>true
 | .dat _ _ _=>true
 | .agg cs=>AV.allLs p cs
 | .ptr l _=>p l
 | .elp _ _=>true
 | .row l=>p l
 | .fn _ cs=>AV.allLs p cs
 | .map l=>p l
 | .tup cs=>AV.allLs p cs
 | .vw l _ _ _=>p l
def AV.allLs (p:Nat→Bool):List AV→Bool
 | []=>true
 | v::vs=>AV.allL p v&&AV.allLs p vs
end
def Ob.allL (p:Nat→Bool):Ob→Bool
 | .box cs=>AV.allLs p cs
 | .row _ _ cs=>AV.allLs p cs
 | .rowd _ _ _ _=>true
 | .mp _ _ _=>true
 | .dead=>true
 | .arr _ _ _ _=>true
 | .mx _ _ _ _ _=>true
mutual
theorem Rep.move {w w':World}{ρ ρ':Nat→Value}{S S':Bool→Nat→Prop}{U U':Nat→Prop}{p:Nat→Bool}(hS:∀ f b,S f b→S' f b)(hw:∀ f b,S f b→w'.heap[b]?=w.heap[b]?)
   (hp:∀ l,p l=true→U l→U' l∧ρ' l=ρ l):∀ (v:AV) (x:Value),v.allL p=true→Rep w ρ S U v x→Rep w' ρ' S' U' v x
 | .any,x,_,_=>by simp [Rep]
 | .imm v,x,_,h=>by simpa [Rep] using h
 | .dat f k es,x,_,h=>by
   simp only [Rep] at h ⊢
   exact RepD.mono id (hS f) (hw f) _ _ h
 | .agg cs,x,ha,h=>by
   simp only [Rep] at h ⊢
   simp only [AV.allL] at ha
   obtain ⟨xs,hx,h1,h⟩:=h
   exact ⟨xs,hx,h1,RepL.move hS hw hp cs xs ha h⟩
 | .ptr l off,x,ha,h=>by
   simp only [Rep] at h ⊢
   simp only [AV.allL] at ha
   obtain ⟨hl,b,hb,hx⟩:=h
   exact ⟨(hp l ha hl).1,b,by rw [(hp l ha hl).2];exact hb,hx⟩
 | .elp f cs,x,_,h=>by
   simp only [Rep] at h ⊢
   obtain ⟨b,off,hx,hb,h⟩:=h
   exact ⟨b,off,hx,hS f b hb,qbX.mono id (hS f) (hw f) b hb off cs h⟩
 | .row l,x,ha,h=>by
   simp only [Rep] at h ⊢
   simp only [AV.allL] at ha
   exact ⟨(hp l ha h.1).1,by rw [(hp l ha h.1).2];exact h.2.1,h.2.2⟩
 | .fn f caps,x,ha,h=>by
   simp only [Rep] at h ⊢
   simp only [AV.allL] at ha
   obtain ⟨xs,hx,h⟩:=h
   exact ⟨xs,hx,RepL.move hS hw hp caps xs ha h⟩
 | .map l,x,ha,h=>by
   simp only [Rep] at h ⊢
   simp only [AV.allL] at ha
   exact ⟨(hp l ha h.1).1,by rw [(hp l ha h.1).2];exact h.2.1,h.2.2⟩
 | .tup vs,x,ha,h=>by
   simp only [Rep] at h ⊢
   simp only [AV.allL] at ha
   obtain ⟨xs,hx,h⟩:=h
   exact ⟨xs,hx,RepL.move hS hw hp vs xs ha h⟩
 | .vw l off n c,x,ha,h=>by
   simp only [Rep] at h ⊢
   simp only [AV.allL] at ha
   obtain ⟨hl,b,hb,hx⟩:=h
   exact ⟨(hp l ha hl).1,b,by rw [(hp l ha hl).2];exact hb,hx⟩
theorem RepL.move {w w':World}{ρ ρ':Nat→Value}{S S':Bool→Nat→Prop}{U U':Nat→Prop}{p:Nat→Bool}(hS:∀ f b,S f b→S' f b)(hw:∀ f b,S f b→w'.heap[b]?=w.heap[b]?)
   (hp:∀ l,p l=true→U l→U' l∧ρ' l=ρ l):∀ (vs:List AV) (xs:List Value),AV.allLs p vs=true→RepL w ρ S U vs xs→RepL w' ρ' S' U' vs xs
 | [],xs,_,h=>by simpa [RepL] using h
 | v::vs,xs,ha,h=>by
   simp only [RepL] at h ⊢
   simp only [AV.allLs,Bool.and_eq_true] at ha
   obtain ⟨y,ys,hx,h1,h2⟩:=h
   exact ⟨y,ys,hx,Rep.move hS hw hp v y ha.1 h1,RepL.move hS hw hp vs ys ha.2 h2⟩
end
theorem qbU (p:Nat→Bool)(f:Bool):∀ ds:List D,AV.allLs p (lift f ds)=true
 | []=>rfl
 | d::ds=>by
   simp only [lift,List.map_cons,AV.allLs,Bool.and_eq_true]
   exact ⟨by cases d<;>rfl,qbU p f ds⟩
theorem ObOk.move {w w':World}{ρ ρ':Nat→Value}{S S':Bool→Nat→Prop}{U U':Nat→Prop}{l:Nat}{p:Nat→Bool}(hS:∀ f b,S f b→S' f b)(hw:∀ f b,S f b→w'.heap[b]?=w.heap[b]?)
   (hp:∀ l,p l=true→U l→U' l∧ρ' l=ρ l) (hl:ρ' l=ρ l) {o:Ob} (ha:o.allL p=true) (hb:∀ b,blk (ρ l)=some b→w'.heap[b]?=w.heap[b]?) (h:ObOk w ρ S U l o):ObOk w' ρ' S' U' l o:=by
 cases o with
 | box cs=>
   obtain ⟨b,ty,xs,h1,h2,h3,h4⟩:=h
   exact ⟨b,ty,xs,by rw [hl,h1],by rw [hb b (by simp [h1,blk]),h2],h3,RepL.move hS hw hp _ _ ha h4⟩
 | row e k cs=>
   obtain ⟨n,xs,h1,h2,h3⟩:=h
   exact ⟨n,xs,by rw [hl];exact qcl h1 hb,h2,RepL.move hS hw hp _ _ ha h3⟩
 | rowd e k f es=>
   obtain ⟨h0,xs,h1,h2,h3⟩:=h
   exact ⟨h0,xs,by rw [hl];exact qcl h1 hb,h2,RepL.move hS hw hp _ _ (qbU p f _) h3⟩
 | mp P k ks=>
   obtain ⟨r,h1,h2⟩:=h
   exact ⟨r,by rw [hl,h1],h2.of_block (hb r (by simp [h1,blk]))⟩
 | dead=>trivial
 | arr e k f es=>
   obtain ⟨b,xs,h1,h2,h3,h4,h5⟩:=h
   exact ⟨b,xs,by rw [hl,h1],by rw [hb b (by simp [h1,blk]),h2],h3,h4,fun i d hd=>⟨(h5 i d hd).1,RepL.move hS hw hp _ _ (qbU p f _) (h5 i d hd).2.1,(h5 i d hd).2.2⟩⟩
 | mx it P k kvs cur=>
   simp only [ObOk] at h ⊢
   rw [hl]
   exact h.mono (hS false) (hw false) hb
def SubT (T1 T:List (Nat×AV)):Prop:=∀ t v,lk T1 t=some v→lk T t=some v
def SubO (O1 O:List (Nat×Ob)):Prop:=∀ t v,ok O1 t=some v→ok O t=some v
theorem SubT.nil {T:List (Nat×AV)}:SubT [] T:=fun _ _ h=>by simp [lk] at h
theorem SubT.cons {T1 T:List (Nat×AV)}{t:Nat}{v:AV}(h:lk T t=some v)(k:SubT T1 T):SubT ((t,v)::T1) T:=fun s u hs=>by
 rw [qcm] at hs
 split at hs
 ·rename_i e;subst e;rw [h];exact hs
 ·exact k s u hs
theorem SubO.nil {T:List (Nat×Ob)}:SubO [] T:=fun _ _ h=>by simp [ok] at h
theorem SubO.cons {T1 T:List (Nat×Ob)}{t:Nat}{v:Ob}(h:ok T t=some v)(k:SubO T1 T):SubO ((t,v)::T1) T:=fun s u hs=>by
 rw [qa0] at hs
 split at hs
 ·rename_i e;subst e;rw [h];exact hs
 ·exact k s u hs
theorem SubO.refl (O:List (Nat×Ob)):SubO O O:=fun _ _ h=>h
def inD (O:List (Nat×Ob))(l:Nat):Bool:=(ok O l).isSome
def allT (p:Nat→Bool):List (Nat×AV)→Bool
 | []=>true
 | (_,v)::T=>v.allL p&&allT p T
def allO (p:Nat→Bool):List (Nat×Ob)→Bool
 | []=>true
 | (_,v)::T=>v.allL p&&allO p T
theorem qqD {p:Nat→Bool}:∀ {T:List (Nat×AV)} {t:Nat} {v:AV},allT p T=true→lk T t=some v→v.allL p=true
 | (s,u)::T,t,v,h,hv=>by
   simp only [allT,Bool.and_eq_true] at h
   rw [qcm] at hv
   split at hv
   ·simp only [Option.some.injEq] at hv;subst hv;exact h.1
   ·exact qqD h.2 hv
theorem qna {p:Nat→Bool}:∀ {T:List (Nat×Ob)} {t:Nat} {v:Ob},allO p T=true→ok T t=some v→v.allL p=true
 | (s,u)::T,t,v,h,hv=>by
   simp only [allO,Bool.and_eq_true] at h
   rw [qa0] at hv
   split at hv
   ·simp only [Option.some.injEq] at hv;subst hv;exact h.1
   ·exact qna h.2 hv
section
variable {P:Program}{c:Ctx}{N:Nat}{Q:Exit→St→Prop}{σ:St}{o:Oper}
theorem sub_TO {T T1:List (Nat×AV)}{O O1:List (Nat×Ob)}(h:SubT T1 T)(k:SubO O1 O)(hT:allT (inD O1) T1=true)(hO:allO (inD O1) O1=true)(hL:∀ l,c.L l→inD O1 l=true):Sub c N ⟨T,O⟩ ⟨T1,O1⟩:=by
 rintro a w ⟨ρ,S,hc⟩
 have hp:∀ l,inD O1 l=true→St.U ⟨T,O⟩ l→St.U ⟨T1,O1⟩ l∧ρ l=ρ l:=fun l hl _=>⟨hl,rfl⟩
 refine ⟨ρ,S,⟨hc.tm,hc.df,fun t v ht=>?_,fun l ob hl=>?_,fun l l' ob ob' b h1 h2=>hc.dj l l' ob ob' b (k l ob h1) (k l' ob' h2),fun l ob b f h1=>hc.dS l ob b f (k l ob h1),fun l ob b h1=>hc.wr l ob b (k l ob h1),fun l ob b h1=>hc.lt l ob b (k l ob h1),hc.SS,hc.Sb,hc.Sn,hc.So,fun l hl=>⟨hL l hl,(hc.lo l hl).2⟩,hc.fm⟩⟩
 ·exact (hc.T t v (h t v ht)).move (fun _ _ h=>h) (fun _ _ _=>rfl) hp v _ (qqD hT ht)
 ·exact (hc.O l ob (k l ob hl)).move (fun _ _ h=>h) (fun _ _ _=>rfl) hp E (qna hO hl) (fun _ _=>rfl)
def qn4 (pl:Nat→Option (Nat×Nat)):List AV→List (Nat×List AV)→Option (List AV)
 | cs,[]=>some cs
 | cs,(i,vs)::rest=>match pl i with
   | none=>none
   | some (off,size)=>if vs.length=size∧off+size≤cs.length then qn4 pl (qau cs off vs) rest else none
theorem qn3 {xs:List Value}:∀ (ys:List Value) (j off:Nat) (cur:List Value),off+j+ys.length≤cur.length→
   (ys.zipIdx j).foldl (fun (cs:Array Value) (p:Value×Nat)=>cs.setIfInBounds (off+p.2) p.1) cur.toArray=(qau cur (off+j) ys).toArray
 | [],j,off,cur,h=>by simp [qau]
 | y::ys,j,off,cur,h=>by
   simp only [List.zipIdx_cons,List.foldl_cons,List.setIfInBounds_toArray]
   simp only [List.length_cons] at h
   rw [qn3 (xs:=xs) ys (j+1) off (cur.set (off+j) y) (by simp;omega)]
   congr 1
   apply List.ext_getElem?
   intro i
   rw [qbu (by simp;omega),qbu (by simp;omega)]
   simp only [List.length_cons]
   by_cases h1:i<off+j
   ·rw [if_pos (by omega),if_pos h1,List.getElem?_set_ne (by omega)]
   ·rw [if_neg h1]
    by_cases h2:i=off+j
    ·subst h2
     rw [if_pos (by omega),if_pos (by omega),List.getElem?_set_self (by omega)]
     simp
    ·rw [if_neg (by omega)]
     by_cases h3:i<off+(j+1)+ys.length
     ·rw [if_pos h3,if_pos (by omega),show i-(off+j)=(i-(off+(j+1)))+1 from by omega]
      simp
     ·rw [if_neg h3,if_neg (by omega),List.getElem?_set_ne (by omega)]
def RepP (w:World)(ρ:Nat→Value)(S:Bool→Nat→Prop)(U:Nat→Prop):List (Nat×List AV)→List (Nat×Value)→Prop
 | [],ps=>ps=[]
 | (i,vs)::rest,ps=>∃ x xs ps',ps=(i,x)::ps'∧x.cells=xs.toArray∧(∀ y∈xs,y.oneCell'=true)∧RepL w ρ S U vs xs∧RepP w ρ S U rest ps'
theorem qiQ {w:World}{ρ:Nat→Value}{S:Bool→Nat→Prop}{U:Nat→Prop}{pl:Nat→Option (Nat×Nat)}:∀ {parts:List (Nat×List AV)} {ps:List (Nat×Value)} {cs cs':List AV} {xs:List Value},RepP w ρ S U parts ps→RepL w ρ S U cs xs→(∀ y∈xs,y.oneCell'=true)→qn4 pl cs parts=some cs'→
   ∃ xs',Instr.fill pl xs.toArray ps=some xs'.toArray∧RepL w ρ S U cs' xs'∧∀ y∈xs',y.oneCell'=true
 | [],ps,cs,cs',xs,hP,hr,h1,h=>by
   simp only [RepP] at hP;subst hP
   simp only [qn4,Option.some.injEq] at h;subst h
   exact ⟨xs,rfl,hr,h1⟩
 | (i,vs)::rest,ps,cs,cs',xs,hP,hr,h1,h=>by
   simp only [RepP] at hP
   obtain ⟨x,us,ps',rfl,hx,h2,h3,hP⟩:=hP
   simp only [qn4] at h
   split at h
   ·simp at h
   ·rename_i off size hpl
    split at h
    ·rename_i hsz
     have hl:=hr.length
     have hl3:=h3.length
     have hsp:RepL w ρ S U (qau cs off vs) (qau xs off us):=by
      simp only [qau];rw [hl3];exact ((hr.take off).append h3).append (hr.drop _)
     have h1':∀ y∈qau xs off us,y.oneCell'=true:=by
      intro y hy
      simp only [qau,List.mem_append] at hy
      rcases hy with (hy|hy)|hy
      ·exact h1 y (List.mem_of_mem_take hy)
      ·exact h2 y hy
      ·exact h1 y (List.mem_of_mem_drop hy)
     obtain ⟨xs',hf,hr',h1''⟩:=qiQ hP hsp h1' h
     refine ⟨xs',?_,hr',h1''⟩
     have hfold:=qn3 (xs:=xs) us 0 off xs (by omega)
     simp only [Nat.add_zero] at hfold
     simp only [Instr.fill,hpl,hx,List.size_toArray]
     rw [if_neg (by simp;omega)]
     have hfold':Array.foldl (fun (cs:Array Value) (x:Value×Nat)=>cs.setIfInBounds (off+x.2) x.1) xs.toArray us.toArray.zipIdx=(qau xs off us).toArray:=by
      rw [← hfold,← Array.foldl_toList]
      simp
     exact (congrArg (fun z=>Instr.fill pl z ps') hfold').trans hf
    ·simp at h
def qjw (T:List (Nat×AV)):List (Nat×Operand)→Option (List (Nat×List AV))
 | []=>some []
 | (i,x)::r=>match (ev T x).bind AV.cellsOf,qjw T r with
   | some cs,some rest=>some ((i,cs)::rest)
   | _,_=>none
theorem qg9 {a:Act}{w:World}{ρ:Nat→Value}{S:Bool→Nat→Prop}{σ σ':St}(hc:Conc c N σ' a w ρ S):∀ {parts:List (Nat×Operand)} {avs:List (Nat×List AV)},(∀ p∈parts,∀ u,ev σ.T p.2=some u→ev σ'.T p.2=some u)→qjw σ.T parts=some avs→
   RepP w ρ S σ'.U avs (parts.map fun (p:Nat×Operand)=>(p.1,a.eval p.2))
 | [],avs,_,h=>by simp only [qjw,Option.some.injEq] at h;subst h;simp [RepP]
 | (i,x)::r,avs,h1,h=>by
   simp only [qjw] at h
   split at h
   ·rename_i cs rest hx hr
    simp only [Option.some.injEq] at h;subst h
    cases hv:ev σ.T x with
    | none=>simp [hv] at hx
    | some v=>
      simp only [hv,Option.bind_some] at hx
      obtain ⟨xs,h2,h3,h4⟩:=qey hx (qaz hc (h1 (i,x) (by simp) v hv))
      simp only [RepP,List.map_cons]
      exact ⟨_,xs,_,rfl,h2,h3,h4,qg9 hc (fun p hp=>h1 p (by simp [hp])) hr⟩
   ·simp at h
def plB (P:Program)(t:TypeId):Option (List (Nat×Nat)):=
 match P.underlying t with
 | some (.struct fs)=>fs.toList.mapM (fun f=>(P.info? f.type).map fun i=>(f.offset,i.size))
 | _=>none
theorem qaF {pl:List (Nat×Nat)}{avs:List (Nat×List AV)}{cs:List AV}(ho:o.op=.build t parts.toArray)(hz:zvB P t=some (some zs))(h1:zs.all (·.oneCell')=true)(hp:plB P t=some pl)
  (ha:qjw σ.T parts=some avs) (hf:qn4 (pl[·]?) (zs.map .imm) avs=some cs):Stp P c N o σ [] (.agg cs) []:=by
 refine qaN fun σ' h2 _ a w ρ S hc=>?_
 obtain ⟨i,z,h3,h4,h5⟩:=qh3 hz
 have hP:=qg9 hc (fun p hp u hu=>h2 p.2 (by simp only [ho,Op.operands];simpa using ⟨p.1,hp⟩) u hu) ha
 obtain ⟨xs,hx,hr,hone⟩:=qiQ (pl:=(pl[·]?)) hP (qj5 zs) (fun y hy=>(List.all_eq_true.1 h1) y hy) hf
 refine ⟨.agg xs.toArray,?_,by simp only [Rep];exact ⟨xs,rfl,hone,hr⟩⟩
 have hb:P.built t (parts.map fun (p:Nat×Operand)=>(p.1,a.eval p.2))=some xs.toArray:=by
  unfold plB at hp
  unfold Program.built
  cases hu:P.underlying t with
  | none=>simp [hu] at hp
  | some d=>
    cases d<;>simp only [hu,reduceCtorEq] at hp
    rename_i fs
    have hzz:z.cells=zs.toArray:=by rw [← h5]
    simp only [h3,h4,hp,hzz]
    simpa using hx
 have hrun:=run_build w t (parts.map fun (p:Nat×Operand)=>(p.1,a.eval p.2)).toArray xs.toArray (by simpa using hb)
 simp only [execOp,ho]
 simp [Sem.run_bind,hrun]
theorem qmB {w:World}{ρ:Nat→Value}{S:Bool→Nat→Prop}{U:Nat→Prop}:∀ xs:List Value,RepL w ρ S U (List.replicate xs.length .any) xs
 | []=>by simp [RepL]
 | x::xs=>by simp only [List.length_cons,List.replicate_succ,RepL];exact ⟨x,xs,rfl,by simp [Rep],qmB xs⟩
theorem qnl (h1:zs.all (·.oneCell')=true)(n:Nat)(z:Value)(hz:z.cells.toList=zs)(h0:0<zs.length):∀ y∈((Array.range n).map (z.cells[· % z.cells.size]!)).toList,y.oneCell'=true:=by
 intro y hy
 simp only [Array.toList_map,List.mem_map] at hy
 obtain ⟨i,_,rfl⟩:=hy
 have hs:z.cells.size=zs.length:=by rw [← hz];simp
 have hlt:i % z.cells.size<z.cells.size:=Nat.mod_lt _ (by omega)
 rw [getElem!_pos z.cells _ hlt]
 refine (List.all_eq_true.1 h1) _ ?_
 rw [← hz]
 exact Array.mem_toList_iff.2 (Array.getElem_mem _)
theorem qaj {e:TypeId}{n k:Nat}{avs:List (Nat×List AV)}{cs:List AV}(l:Nat)(ho:o.op=.buildSlice t n parts.toArray)(ht:slB P t e k=true)(hz:zvB P e=some (some zs))(h1:zs.all (·.oneCell')=true)(hzl:zs.length=k)(hk:0<k)(hn:n*k≤16777216)
  (hn0:0<n) (ha:qjw σ.T parts=some avs) (hf:qn4 (fun i=>some (i*k,k)) (List.replicate (n*k) .any) avs=some cs) (hcs:cs.length=n*k):Stp P c N o σ [] (.row l) [(l,.row e k cs)]:=by
 rintro hd σ' h2 _ hnew
 refine qlb (p0:=fun b=>.slice (some ⟨b,0,none⟩) n n) hd (hnew _ (List.mem_singleton.2 E)) fun a w ρ S hc=>?_
 obtain ⟨i,z,h3,h4,h5⟩:=qh3 hz
 obtain ⟨i',h6,h7,h8⟩:=qcL ht
 rw [h3] at h7;simp only [Option.some.injEq] at h7;subst h7
 have hP:=qg9 hc (fun p hp u hu=>h2 p.2 (by simp only [ho,Op.operands];simpa using ⟨p.1,hp⟩) u hu) ha
 have hz0:((Array.range (n*k)).map (z.cells[· % z.cells.size]!)).toList.length=n*k:=by simp
 have hr0:=qmB (w:=w) (ρ:=ρ) (S:=S) (U:=σ'.U) ((Array.range (n*k)).map (z.cells[· % z.cells.size]!)).toList
 rw [hz0] at hr0
 obtain ⟨xs,hx,hr,hone⟩:=qiQ (pl:=fun i=>some (i*k,k)) hP hr0 (qnl h1 _ z h5 (by omega)) hf
 have hxl:=hr.length
 refine ⟨.cells xs.toArray e,?_,rfl,fun ρ' U' hρ hU hl hp=>⟨⟨n,xs,⟨by omega,.inr ⟨w.heap.size,n,xs.toArray,hp,Nat.zero_le _,qfD w _,Nat.le_refl _,?_,by simp;omega,by simp;rw [List.take_of_length_le zO]⟩⟩,hone,hr.mono (fun _ _ h=>h) (fun f b hb=>(Far.alloc (fun _=>False) w _).block b (hc.Sb f b hb) (fun h=>h)) hU hρ⟩,?_⟩⟩
 ·have hrun:(Instr.buildSlice t n (parts.map fun (p:Nat×Operand)=>(p.1,a.eval p.2)).toArray).run P w=.ok (.slice (some ⟨w.heap.size,0,none⟩) n n) (w.alloc (.cells xs.toArray e)):=by
   have hpos:0<n*k:=Nat.mul_pos hn0 hk
   have hx':Instr.fill (fun i=>some (i*k,k)) ((Array.range (n*k)).map (z.cells[· % z.cells.size]!)) (parts.map fun (p:Nat×Operand)=>(p.1,a.eval p.2))=some xs.toArray:=by rw [← hx]
   simp only [Instr.buildSlice,Sem.run_bind,run_underlying h6 w,Result.andThen_ok,sizeOf,run_typeInfo w h3,Sem.run_pure,h8]
   rw [if_neg (by omega),if_neg (by omega)]
   simp only [Sem.run_bind,qhz h3 h4,Result.andThen_ok,Sem.run_pure]
   rw [hx']
   simp [newRow,Sem.run_bind,run_newObj_alloc]
  simp only [execOp,ho]
  simp only [List.map_toArray]
  simp [Sem.run_bind,hrun]
 ·simp only [maxLen]
  have:n≤n*k:=Nat.le_mul_of_pos_right n hk
  omega
 ·simp only [Rep]
  exact ⟨hl,hp.symm,_,_,_,rfl⟩
end
end Go.Proofs.YtpgceiijoedppaaGreat
namespace Go.Proofs.YtpgceiijoedppaaGreat
open Go
variable {b k n t:Nat}{e:TypeId}{v:Value}{w:World}{xs:List Value}
def AV.toD (f:Bool):AV→Option D
 | .imm v=>some (.imm v)
 | .dat g k es=>if g=f then some (.sl k es) else none
 | _=>none
def toDs (f:Bool):List AV→Option (List D)
 | []=>some []
 | v::vs=>match v.toD f,toDs f vs with
   | some d,some ds=>some (d::ds)
   | _,_=>none
theorem qg0 {f:Bool}:∀ {vs:List AV} {ds:List D},toDs f vs=some ds→vs=lift f ds
 | [],ds,h=>by simp only [toDs,Option.some.injEq] at h;subst h;rfl
 | v::vs,ds,h=>by
   simp only [toDs] at h
   split at h
   ·rename_i d ds' hd hs
    simp only [Option.some.injEq] at h;subst h
    have:=qg0 hs
    simp only [lift,List.map_cons,this]
    congr 1
    cases v<;>simp only [AV.toD,Option.some.injEq,reduceCtorEq] at hd<;>first|(subst hd;rfl)|(split at hd<;>simp at hd;rename_i hg;subst hd;subst hg;rfl)|exact hd.elim
   ·simp at h
section
variable {P:Program}{c:Ctx}{N:Nat}{Q:Exit→St→Prop}{σ:St}{o:Oper}
theorem blk_own {A:Option Addr}{c:Nat}:blk (.slice A n c)=(Value.slice A n c).ownBlock:=by cases A<;>rfl
theorem qf2 (h:w.ownsRow b e k v n xs):∃ A c,v=.slice A n c:=by
 rcases h.2 with ⟨rfl,rfl⟩|⟨g,cap,cur,rfl,_⟩
 ·exact ⟨none,0,rfl⟩
 ·exact ⟨_,_,rfl⟩
theorem qj8 (h:w.ownsRow b e k v n xs):v.ownBlock=blk v:=by
 obtain ⟨A,c,rfl⟩:=qf2 h
 exact blk_own.symm
structure TyA (P:Program)(t e:TypeId)(k by_:Nat):Prop where
 s:slB P t e k=true
 z:∃ z:Value,(P.info? e).map (fun i=>(i.zero,i.size,i.bytes))=some (some z,k,by_)∧z.cells.size=k
 k0:0<k
theorem qkv (t ty e:TypeId)(k:Nat)(hs:slB P t e k=true)(w:World)(A:Option Addr)(n cap c':Nat)(hn:n≤cap)(hA:∀ a,A=some a→(storeCells (a.add (n*k)) []).run P w=.ok () w):
  (Builtin.append_ #[t,t] ty #[.slice A n cap,.slice none 0 c']).run P w=.ok (.slice A n cap) w:=by
 obtain ⟨i,h1,h2,h3⟩:=qcL hs
 have h1':=run_underlying h1 w
 cases A with
 | none=>simp [Builtin.append_,h1',sizeOf,run_typeInfo w h2,Builtin.lenOf,hn,Builtin.firstCells]
 | some a=>simp [Builtin.append_,h1',sizeOf,run_typeInfo w h2,Builtin.lenOf,hn,Builtin.firstCells,storeCells]
theorem qam {T:List (Nat×AV)}{O:List (Nat×Ob)}{l:Nat}(e:TypeId)(k:Nat)(f:Bool)(ht:lk T t=some (.imm (.slice none 0 0)))(hl:ok O l=none):Sub c N ⟨T,O⟩ ⟨(t,.row l)::T,(l,.rowd e k f [])::O⟩:=by
 rintro a w ⟨ρ,S,hc⟩
 have hev:=hc.T t _ ht
 simp only [Rep] at hev
 have h1:Conc c N ⟨T,(l,.rowd e k f [])::O⟩ a w (upd ρ l (.slice none 0 0)) S:=
  hc.addOb hl (fun b hb=>by simp [blk] at hb) ⟨by simp,[],by rw [qbY];exact World.ownsRow_nil w 0 e k,by simp,by simp [lift,RepL]⟩
 refine ⟨_,S,{ h1 with T:=fun s v hs=>?_ }⟩
 simp only [qcm] at hs
 split at hs
 ·rename_i e';subst e'
  simp only [Option.some.injEq] at hs;subst hs
  simp only [Rep]
  exact ⟨by simp [St.U,qa0],by rw [qbY];exact hev,_,_,_,hev⟩
 ·exact h1.T s v hs
theorem qdx {T:List (Nat×AV)}{O:List (Nat×Ob)}(k:Nat)(f:Bool)(ht:lk T t=some (.imm (.slice none 0 0))):Sub c N ⟨T,O⟩ ⟨(t,.dat f k [])::T,O⟩:=by
 rintro a w ⟨ρ,S,hc⟩
 have hev:=hc.T t _ ht
 simp only [Rep] at hev
 refine ⟨ρ,S,{ hc with tm:=hc.tm,T:=fun s v hs=>?_ }⟩
 simp only [qcm] at hs
 split at hs
 ·rename_i e';subst e'
  simp only [Option.some.injEq] at hs;subst hs
  simp only [Rep,RepD]
  exact ⟨none,0,0,hev,by simp,Nat.le_refl _,Nat.zero_le _,.inl E⟩
 ·exact hc.T s v hs
mutual
def AV.fr (l:Nat)(d:AV):AV→AV
 | .row m=>if m=l then d else .row m
 | .agg cs=>.agg (AV.frs l d cs)
 | .fn f cs=>.fn f (AV.frs l d cs)
 | .tup cs=>.tup (AV.frs l d cs)
 | v=>v
def AV.frs (l:Nat)(d:AV):List AV→List AV
 | []=>[]
 | v::vs=>AV.fr l d v::AV.frs l d vs
end
theorem qiv {w:World}{ρ:Nat→Value}{S:Bool→Nat→Prop}{U:Nat→Prop}{f:Bool}{b k:Nat}(hsl:∀ v u:Value,True):∀ {es:List (List D)} {off:Nat} {xs:List Value},(∀ d∈es,d.length=k)→RepL w ρ S U (lift f es.flatten) xs→(∀ y∈xs,y.oneCell'=true)→
   (∀ j u,xs[j]?=some u→w.cell? ⟨b,off+j,none⟩=some u)→qcK w f (S f) b k off es
 | [],off,xs,_,_,_,_=>by simp [qcK]
 | e::es,off,xs,hk,hr,h1,hc=>by
   have he:e.length=k:=hk e (by simp)
   have cells:∀ {ds:List D} {off:Nat} {xs:List Value},RepL w ρ S U (lift f ds) xs→(∀ y∈xs,y.oneCell'=true)→(∀ j u,xs[j]?=some u→w.cell? ⟨b,off+j,none⟩=some u)→qbX w f (S f) b off ds:=by
    intro ds
    induction ds with
    | nil=>intro off xs _ _ _;simp [qbX]
    | cons d ds ih=>
      intro off xs h h1 hc
      simp only [lift,List.map_cons,RepL] at h
      obtain ⟨y,ys,rfl,hy,hys⟩:=h
      simp only [qbX]
      refine ⟨⟨y,by simpa using hc 0 y (by simp),h1 y (by simp),?_⟩,ih hys (fun z hz=>h1 z (by simp [hz])) (fun j u hu=>by rw [show off+1+j=off+(j+1) from by omega];exact hc (j+1) u (by simpa using hu))⟩
      cases d with
      | imm v=>simpa [D.av,Rep,RepD] using hy
      | sl k es=>simpa [D.av,Rep] using hy
   have h8:lift f (e::es).flatten=lift f e++lift f es.flatten:=by simp [lift]
   have hlen:=hr.length
   have ht:=hr.take k
   have hd:=hr.drop k
   have hle:(lift f e).length=k:=by simp [lift,he]
   rw [h8,List.take_append_of_le_length (by omega),List.take_of_length_le (by omega)] at ht
   rw [h8,List.drop_append,List.drop_eq_nil_of_le (by omega),hle,Nat.sub_self,List.drop_zero,List.nil_append] at hd
   simp only [qcK]
   refine ⟨⟨he,cells ht (fun y hy=>h1 y (List.mem_of_mem_take hy)) (fun j u hu=>?_)⟩,qiv hsl (fun d hd'=>hk d (by simp [hd'])) hd (fun y hy=>h1 y (List.mem_of_mem_drop hy)) (fun j u hu=>?_)⟩
   ·rw [List.getElem?_take] at hu
    split at hu
    ·exact hc j u hu
    ·simp at hu
   ·rw [List.getElem?_drop] at hu
    rw [show off+k+j=off+(k+j) from by omega]
    exact hc (k+j) u hu
mutual
theorem Rep.fr {w:World}{ρ:Nat→Value}{S S':Bool→Nat→Prop}{U:Nat→Prop}{l:Nat}{d:AV}(hS:∀ f b,S f b→S' f b)(hd:U l→Rep w ρ S' U d (ρ l)):∀ (v:AV) (x:Value),Rep w ρ S U v x→Rep w ρ S' U (AV.fr l d v) x
 | .row m,x,h=>by
   simp only [AV.fr]
   split
   ·rename_i e;subst e
    simp only [Rep] at h
    rw [h.2.1];exact hd h.1
   ·exact h.mono hS (fun _ _ _=>rfl) (fun _ h=>h) (fun _ _=>rfl)
 | .agg cs,x,h=>by
   simp only [AV.fr,Rep] at h ⊢
   obtain ⟨xs,hx,h1,h⟩:=h
   exact ⟨xs,hx,h1,RepL.fr hS hd cs xs h⟩
 | .fn f cs,x,h=>by
   simp only [AV.fr,Rep] at h ⊢
   obtain ⟨xs,hx,h⟩:=h
   exact ⟨xs,hx,RepL.fr hS hd cs xs h⟩
 | .tup cs,x,h=>by
   simp only [AV.fr,Rep] at h ⊢
   obtain ⟨xs,hx,h⟩:=h
   exact ⟨xs,hx,RepL.fr hS hd cs xs h⟩
 | .any,x,h=>h.mono hS (fun _ _ _=>rfl) (fun _ h=>h) (fun _ _=>rfl)
 | .imm v,x,h=>h.mono hS (fun _ _ _=>rfl) (fun _ h=>h) (fun _ _=>rfl)
 | .dat f k es,x,h=>h.mono hS (fun _ _ _=>rfl) (fun _ h=>h) (fun _ _=>rfl)
 | .ptr m off,x,h=>h.mono hS (fun _ _ _=>rfl) (fun _ h=>h) (fun _ _=>rfl)
 | .elp f ds,x,h=>h.mono hS (fun _ _ _=>rfl) (fun _ h=>h) (fun _ _=>rfl)
 | .map m,x,h=>h.mono hS (fun _ _ _=>rfl) (fun _ h=>h) (fun _ _=>rfl)
 | .vw m off n c,x,h=>h.mono hS (fun _ _ _=>rfl) (fun _ h=>h) (fun _ _=>rfl)
theorem RepL.fr {w:World}{ρ:Nat→Value}{S S':Bool→Nat→Prop}{U:Nat→Prop}{l:Nat}{d:AV}(hS:∀ f b,S f b→S' f b)(hd:U l→Rep w ρ S' U d (ρ l)):∀ (vs:List AV) (xs:List Value),RepL w ρ S U vs xs→RepL w ρ S' U (AV.frs l d vs) xs
 | [],xs,h=>by simpa [AV.frs,RepL] using h
 | v::vs,xs,h=>by
   simp only [AV.frs,RepL] at h ⊢
   obtain ⟨y,ys,hx,h1,h2⟩:=h
   exact ⟨y,ys,hx,Rep.fr hS hd v y h1,RepL.fr hS hd vs ys h2⟩
end
def frT (l:Nat)(d:AV):List (Nat×AV)→List (Nat×AV)
 | []=>[]
 | (t,v)::T=>(t,AV.fr l d v)::frT l d T
theorem lk_frT (l:Nat)(d:AV):∀ (T:List (Nat×AV)) (t:Nat),lk (frT l d T) t=(lk T t).map (AV.fr l d)
 | [],t=>rfl
 | (s,v)::T,t=>by
   simp only [frT,qcm]
   split
   ·rfl
   ·exact lk_frT l d T t
def Ob.frO (l:Nat)(d:AV):Ob→Ob
 | .box cs=>.box (AV.frs l d cs)
 | .row e k cs=>.row e k (AV.frs l d cs)
 | o=>o
def frO (l:Nat)(d:AV):List (Nat×Ob)→List (Nat×Ob)
 | []=>[]
 | (t,v)::T=>(t,v.frO l d)::frO l d T
theorem qr4 (l:Nat)(d:AV):∀ (T:List (Nat×Ob)) (t:Nat),ok (frO l d T) t=(ok T t).map (Ob.frO l d)
 | [],t=>rfl
 | (s,v)::T,t=>by
   simp only [frO,qa0]
   split
   ·rfl
   ·exact qr4 l d T t
theorem qaG {T T':List (Nat×AV)}{O O':List (Nat×Ob)}{l:Nat}{f:Bool}{es:List (List D)}(hl:ok O l=some (.rowd e k f es))(hk:0<k)(hL:¬ c.L l)(hT':frT l (.dat f k es) T=T')(hO':frO l (.dat f k es) O=O')(hz:f=true→Zsz e=k:=by first|(intro h;cases h;done)|(intro _;kernel_rfl)):Sub c N ⟨T,O⟩ ⟨T',(l,.dead)::O'⟩:=by
 rintro a w ⟨ρ,S,hc⟩
 subst hT';subst hO'
 obtain ⟨hes,xs,how,h1,hr⟩:=hc.O l _ hl
 let S':Bool→Nat→Prop:=fun g b=>S g b∨(g=f∧blk (ρ l)=some b)
 have hS:∀ g b,S g b→S' g b:=fun g b h=>.inl h
 have hdat:Rep w ρ S' (St.U ⟨T,O⟩) (.dat f k es) (ρ l):=by
  simp only [Rep,RepD]
  rcases how.2 with ⟨hv,hn⟩|⟨g,cap,cur,hv,_,hh,hcap,hmax,_⟩
  ·exact ⟨none,0,0,hv,hn.symm,Nat.le_refl _,Nat.zero_le _,.inl E⟩
  ·refine ⟨some ⟨g,0,none⟩,es.length,cap,hv,rfl,hcap,hmax,.inr ⟨g,0,rfl,.inr ⟨rfl,by rw [hv];rfl⟩,fun hf=>⟨Nat.zero_mod _,_,_,_,hh,hz hf⟩,?_⟩⟩
   have:=qiv (b:=g) (fun _ _=>trivial) (off:=0) hes (hr.mono hS (fun _ _ _=>rfl) (fun _ h=>h) (fun _ _=>rfl)) h1 (fun j u hu=>by rw [Nat.zero_add];exact qb8 how (by rw [hv];rfl) j u hu)
   exact this
 have hUF:∀ b,S' true b→S true b∨∃ cur ty,w.heap[b]?=some (.cells cur ty (0,0)):=fun b h=>h.imp id fun ⟨_,hb⟩=>by
  rcases how.2 with ⟨hv,_⟩|⟨g,cap,cur,hv,_,hh,_⟩
  ·rw [hv] at hb;simp [blk] at hb
  ·rw [hv] at hb;simp only [blk,Option.some.injEq] at hb;subst hb;exact ⟨_,_,hh⟩
 have hU:∀ m,St.U ⟨T,O⟩ m→St.U ⟨frT l (.dat f k es) T,(l,.dead)::frO l (.dat f k es) O⟩ m:=fun m hm=>by
  simp only [St.U,qa0,qr4] at hm ⊢
  split
  ·rfl
  ·simpa using hm
 have hsp:∀ m om,ok ((l,Ob.dead)::frO l (.dat f k es) O) m=some om→(m=l∧om=.dead)∨(m≠l∧∃ om',ok O m=some om'∧om=om'.frO l (.dat f k es)):=fun m om hm=>by
  rw [qa0] at hm
  split at hm
  ·rename_i e;exact .inl ⟨e.symm,by simpa using hm.symm⟩
  ·rename_i e
   rw [qr4] at hm
   obtain ⟨om',h2,h3⟩:=Option.map_eq_some_iff.1 hm
   exact .inr ⟨fun e'=>e e'.symm,om',h2,h3.symm⟩
 have hlv:∀ om:Ob,(om.frO l (.dat f k es)).live→om.live:=fun om h=>by cases om<;>exact h
 have hblk:∀ b,blk (ρ l)=some b→c.w0.heap.size≤b∧b<w.heap.size:=fun b hb=>by
  refine ⟨?_,hc.lt l _ b hl trivial hb⟩
  rcases hc.wr l _ b hl trivial hb with h|h
  ·exact h
  ·exact absurd h.1 hL
 refine ⟨ρ,S',⟨hc.tm,hc.df,fun t v ht=>?_,fun m om hm=>?_,fun m m' om om' b h2 h3 h4 h5 h6 h7=>?_,fun m om b g h2 h3 h4=>?_,fun m om b h2 h3 h4=>?_,fun m om b h2 h3 h4=>?_,?_,?_,?_,?_,fun m hm=>?_,hc.fm.mono (fun g b h=>⟨g,hS g b h⟩) hUF⟩⟩
 ·rw [show (St.mk (frT l (.dat f k es) T) ((l,.dead)::frO l (.dat f k es) O)).T=frT l (.dat f k es) T from rfl,lk_frT] at ht
  obtain ⟨v0,hv0,rfl⟩:=Option.map_eq_some_iff.1 ht
  exact ((hc.T t v0 hv0).fr hS (fun _=>hdat)).mono (fun _ _ h=>h) (fun _ _ _=>rfl) hU (fun _ _=>rfl)
 ·rcases hsp m om hm with ⟨_,rfl⟩|⟨hne,om',h2,rfl⟩
  ·trivial
  ·have hob:=hc.O m om' h2
   cases om' with
   | box cs=>
     obtain ⟨b,ty,ys,h3,h4,h5,h6⟩:=hob
     exact ⟨b,ty,ys,h3,h4,h5,(RepL.fr hS (fun _=>hdat) _ _ h6).mono (fun _ _ h=>h) (fun _ _ _=>rfl) hU (fun _ _=>rfl)⟩
   | row e k cs=>
     obtain ⟨n,ys,h3,h4,h5⟩:=hob
     exact ⟨n,ys,h3,h4,(RepL.fr hS (fun _=>hdat) _ _ h5).mono (fun _ _ h=>h) (fun _ _ _=>rfl) hU (fun _ _=>rfl)⟩
   | rowd e k f es=>exact hob.mono hS (fun _ _ _=>rfl) hU (fun _ _=>rfl) (by simp [St.U,h2]) (fun _ _=>rfl)
   | mp P k ks=>exact hob.mono hS (fun _ _ _=>rfl) hU (fun _ _=>rfl) (by simp [St.U,h2]) (fun _ _=>rfl)
   | arr e k f es=>exact hob.mono hS (fun _ _ _=>rfl) hU (fun _ _=>rfl) (by simp [St.U,h2]) (fun _ _=>rfl)
   | mx it P k kvs cur=>exact hob.mono hS (fun _ _ _=>rfl) hU (fun _ _=>rfl) (by simp [St.U,h2]) (fun _ _=>rfl)
   | dead=>trivial
 ·rcases hsp m om h2 with ⟨_,rfl⟩|⟨n1,o1,k1,rfl⟩
  ·exact h4.elim
  ·rcases hsp m' om' h3 with ⟨_,rfl⟩|⟨n2,o2,k2,rfl⟩
   ·exact h5.elim
   ·exact hc.dj m m' o1 o2 b k1 k2 (hlv _ h4) (hlv _ h5) h6 h7
 ·rcases hsp m om h2 with ⟨_,rfl⟩|⟨n1,o1,k1,rfl⟩
  ·exact h3.elim
  ·rintro (h5|⟨_,h5⟩)
   ·exact hc.dS m o1 b g k1 (hlv _ h3) h4 h5
   ·exact n1 (hc.dj m l o1 _ b k1 hl (hlv _ h3) trivial h4 h5)
 ·rcases hsp m om h2 with ⟨_,rfl⟩|⟨n1,o1,k1,rfl⟩
  ·exact h3.elim
  ·exact hc.wr m o1 b k1 (hlv _ h3) h4
 ·rcases hsp m om h2 with ⟨_,rfl⟩|⟨n1,o1,k1,rfl⟩
  ·exact h3.elim
  ·exact hc.lt m o1 b k1 (hlv _ h3) h4
 ·rintro b ⟨h2|⟨e1,h2⟩,h3|⟨e2,h3⟩⟩
  ·exact hc.SS b ⟨h2,h3⟩
  ·exact hc.dS l _ b true hl trivial h3 h2
  ·exact hc.dS l _ b false hl trivial h2 h3
  ·rw [← e1] at e2;cases e2
 ·rintro g b (h2|⟨_,h2⟩)
  ·exact hc.Sb g b h2
  ·exact (hblk b h2).2
 ·rintro b (h2|⟨_,h2⟩)
  ·exact hc.Sn b h2
  ·exact .inr (hblk b h2).1
 ·rintro b (h2|⟨_,h2⟩)
  ·exact hc.So b h2
  ·exact .inr (hblk b h2).1
 ·obtain ⟨h2,h3⟩:=hc.lo m hm
  exact ⟨hU m h2,h3⟩
end
end Go.Proofs.YtpgceiijoedppaaGreat