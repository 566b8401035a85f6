/- Part 8 of the proof: SymY, SymZ, SymZb, Datd, SymZd. -/
import Derived.Test.YtpgceiijoedppaaGreatC7
import Derived.Lib.AppendStr
import Derived.Lib.SlBytesRow
import Derived.Lib.BufferRead
import Derived.Shelf.SlSortCmp.NoneTotal
set_option linter.unusedVariables false
set_option linter.unusedSimpArgs false
namespace Go.Proofs.YtpgceiijoedppaaGreat
open Go
variable {O:List (Nat×Ob)}{P:Program}{T:List (Nat×AV)}{bs:ByteArray}{es:List (List D)}{f:Bool}{l:Nat}{x:Operand}
def btL (l:List UInt8):List (List D):=l.map fun b=>[.imm (.int .u8 b.toNat)]
theorem qhF (l:List UInt8):(btL l).length=l.length:=by simp [btL]
theorem btL_len1 (l:List UInt8):∀ d∈btL l,d.length=1:=fun d hd=>by obtain ⟨b,_,rfl⟩:=List.mem_map.1 hd;rfl
theorem qoo {w:World}{ρ:Nat→Value}{S:Bool→Nat→Prop}{U:Nat→Prop}{f:Bool}:∀ (l:List UInt8),RepL w ρ S U (lift f (btL l).flatten) (l.map fun b=>Value.int .u8 b.toNat)
 | []=>by simp [btL,lift,RepL]
 | b::l=>by
   have ih:=qoo (w:=w) (ρ:=ρ) (S:=S) (U:=U) (f:=f) l
   simp only [btL,List.map_cons,List.flatten_cons,lift,List.map_append] at ih ⊢
   simp only [List.map_nil,List.singleton_append,List.cons_append,List.nil_append,RepL,List.map_cons]
   exact ⟨_,_,rfl,by simp only [D.av,Rep],ih⟩
theorem qqx {w:World}{ρ:Nat→Value}{S:Bool→Nat→Prop}{U:Nat→Prop}{f:Bool}:∀ (l:List UInt8) (xs:List Value),RepL w ρ S U (lift f (btL l).flatten) xs→xs=l.map fun b=>Value.int .u8 b.toNat
 | [],xs,h=>by simpa [btL,lift,RepL] using h
 | b::l,xs,h=>by
   simp only [btL,List.map_cons,List.flatten_cons,lift,List.map_append,List.map_nil,List.singleton_append,List.cons_append,List.nil_append,RepL,D.av,Rep] at h
   obtain ⟨y,ys,rfl,rfl,h⟩:=h
   rw [List.map_cons,qqx (w:=w) (ρ:=ρ) (S:=S) (U:=U) (f:=f) l ys (by simpa only [btL,lift] using h)]
theorem qfX (w:World)(t u ty e:TypeId)(i:TypeInfo)(ht:P.underlying t=some (.slice e))(hu:P.underlying u=some .string)(hi:P.info? e=some i)(hz:i.zero=some (.int .u8 0))(hsize:i.size=1)(hby:i.bytes=1)
  (v:Value) (n:Nat) (xs:List Value) (hown:w.ownsRow 0 e 1 v n xs) (s:ByteArray) (hb:n+s.size≤140737488355328):
  ∃ v' w',(Builtin.append_ #[t,u] ty #[v,.string s]).run P w=.ok v' w'∧w'.ownsRow 0 e 1 v' (n+s.size) (xs++Lib.strCells s)∧w.grownBy w' v.ownBlock∧(v'.ownBlock=v.ownBlock∨v'.ownBlock=some w.heap.size):=by
 have h63:n+s.size≤maxLen:=by simp only [maxLen];omega
 obtain ⟨v',w',h1,h2,h3,h4⟩:=Lib.run_append_own_string (P:=P) w 0 t u ty e i ht hu hi hz hsize hby v n xs hown s h63 hb (Nat.zero_le _)
 refine ⟨v',w',h1,h2,h3,?_⟩
 rcases hown.2 with ⟨rfl,rfl⟩|⟨g,cap,cur,rfl,_,hg,hnc,hcm,hcs,htake⟩
 ·by_cases hs:s.size=0
  ·rw [h4.2 ⟨rfl,hs⟩];exact .inl E
  ·have hr:=run_append_nil_string (P:=P) w t u ty e i (.int .u8 0) ht hu hi hz s (by omega) (by omega) (by rw [hby];omega)
   rw [hr] at h1
   cases h1
   exact .inr E
 ·have hxl:xs.length=n:=by simpa using hown.1
  by_cases hroom:n+s.size≤cap
  ·have hr:=Lib.run_append_room_string (P:=P) w t u ty e i ht hu hi hsize g n cap cur hg s hroom (by simp at hcs;omega)
   rw [hr] at h1
   cases h1
   exact .inl E
  ·have hr:=Lib.run_append_grow_string (P:=P) w t u ty e i (.int .u8 0) ht hu hi hz ⟨g,0,none⟩ n cap xs (by rw [hsize];simpa using hxl) (hown.cells (g:=g) E) s (by omega) (by omega) (by rw [hby];exact growslice_fits (by omega) (by omega))
   rw [hr] at h1
   cases h1
   exact .inr E
section
variable {P:Program}{c:Ctx}{N:Nat}{Q:Exit→St→Prop}{σ:St}{o:Oper}
theorem qri {s:Operand}{t u e:TypeId}{l':Nat}(ty:TyA P t e 1 1)(hz0:(P.info? e).map (·.zero)=some (some (.int .u8 0)))(hus:P.underlying u=some .string)
  (ho:o.op=.call { callee:=.builtin .append,args:=#[s,x],argTypes:=#[t,u] }) (hdN:∀ d,o.dst=some d→d<N)
  (hs:ev T s=some (.row l)) (hl:ok O l=some (.rowd e 1 f es)) (hL:¬ c.L l) (hl':ok O l'=none)
  (hx:ev T x=some (.imm (.string bs))) (hb:es.length+bs.size≤140737488355328):
  AOp P c N o ⟨T,O⟩ (fun σ2=>σ2=St.add ⟨T,O⟩ o.dst (.row l') [(l',.rowd e 1 f (es++btL bs.data.toList)),(l,.dead)]):=by
 rintro a w ⟨ρ,S,hc⟩
 have hev:=qaz hc hs
 simp only [Rep] at hev
 obtain ⟨hUl,hse,_⟩:=hev
 obtain ⟨hes,xs,how,h1,hr⟩:=hc.O l _ hl
 have hxe:=qaz hc hx
 simp only [Rep] at hxe
 obtain ⟨i,z,hi1,hi2,hi3,hi4,hi5,hi6⟩:=ty.info
 have hz1:z=.int .u8 0:=by
  rw [hi2] at hz0
  simp only [Option.map_some,Option.some.injEq,hi3] at hz0
  exact hz0
 subst hz1
 obtain ⟨v',w',hrun,how0,hgr,hat⟩:=qfX (P:=P) w t u o.type e i hi1 hus hi2 hi3 hi4 hi5 (ρ l) es.length xs how bs hb
 obtain ⟨us,hus2,how',hone,hrep⟩:∃ us:List Value,us=Lib.strCells bs∧w'.ownsRow 0 e 1 v' (es.length+bs.size) (xs++us)∧(∀ u∈us,u.oneCell'=true)∧RepL w ρ S (St.U ⟨T,O⟩) (lift f (btL bs.data.toList).flatten) us:=
  ⟨_,rfl,how0,Lib.strCells_oneCell bs,qoo _⟩
 have hown:=qj8 how
 have hown':=qj8 how'
 rw [hown] at hgr hat
 rw [hown'] at hat
 have hf:Far (fun b=>blk (ρ l)=some b) w w':=⟨hgr.os,hgr.tape,hgr.output,hgr.size,fun b hb hne=>hgr.block b hb (fun e=>hne e.symm),qku _ _ _ _ hrun⟩
 have hll:l≠l':=fun e=>by subst e;rw [hl] at hl';cases hl'
 have hokd:∀ m ob,ok ((l,Ob.dead)::O) m=some ob→ob.live→ok O m=some ob∧m≠l:=fun m ob hm hv=>by
  rw [qa0] at hm
  split at hm
  ·cases hm;exact hv.elim
  ·rename_i hne;exact ⟨hm,fun e=>hne e.symm⟩
 have hUd:∀ m,St.U ⟨T,O⟩ m→St.U ⟨T,(l,.dead)::O⟩ m:=fun m hm=>qet m hm
 have hc1:Conc c N ⟨T,(l,.dead)::O⟩ a w ρ S:=by
  refine ⟨hc.tm,hc.df,fun t v ht=>(hc.T t v ht).mono (fun _ _ h=>h) (fun _ _ _=>rfl) hUd (fun _ _=>rfl),fun m ob hm=>?_,fun m m' ob ob' b h1 h2 h3 h4=>hc.dj m m' ob ob' b (hokd m ob h1 h3).1 (hokd m' ob' h2 h4).1 h3 h4,fun m ob b f h1 h2=>hc.dS m ob b f (hokd m ob h1 h2).1 h2,fun m ob b h1 h2=>hc.wr m ob b (hokd m ob h1 h2).1 h2,fun m ob b h1 h2=>hc.lt m ob b (hokd m ob h1 h2).1 h2,hc.SS,hc.Sb,hc.Sn,hc.So,fun m hm=>⟨?_,(hc.lo m hm).2⟩,hc.fm⟩
  ·by_cases hv:ob.live
   ·obtain ⟨h1,h2⟩:=hokd m ob hm hv
    exact (hc.O m ob h1).mono (fun _ _ h=>h) (fun _ _ _=>rfl) hUd (fun _ _=>rfl) (by simp [St.U,h1]) (fun _ _=>rfl)
   ·cases ob<;>simp [Ob.live] at hv;trivial
  ·have:=(hc.lo m hm).1
   simp only [qa0]
   split
   ·rfl
   ·exact this
 have hne:∀ m ob,ok ((l,Ob.dead)::O) m=some ob→ob.live→m≠l:=fun m ob hm hv=>(hokd m ob hm hv).2
 have hlock:¬ c.L l:=hL
 have hwr:∀ b,blk (ρ l)=some b→c.w0.heap.size≤b:=fun b hb=>by
  rcases hc.wr l _ b hl trivial hb with h|h
  ·exact h
  ·exact absurd h.1 hlock
 have hc2:Conc c N ⟨T,(l,.dead)::O⟩ a w' ρ S:=hc1.grow hf (fun f b hS e=>hc.dS l _ b f hl trivial e hS) (fun m ob b hm hv hb e=>hne m ob hm hv (hc.dj m l ob _ b (hokd m ob hm hv).1 hl hv trivial hb e)) (fun b hb e=>by have:=hwr b e;omega)
 have hsz:=hf.size
 have hblk:∀ b,blk v'=some b→b<w'.heap.size∧c.w0.heap.size≤b∧(∀ f,¬ S f b)∧∀ m om,ok ((l,Ob.dead)::O) m=some om→om.live→blk (ρ m)≠some b:=by
  intro b hb
  have hlt:b<w'.heap.size:=by
   obtain ⟨_,_,_,hh,_⟩:=qfY how' hb
   exact (Array.getElem?_eq_some_iff.1 hh).1
  rcases hat with h|h
  ·rw [h] at hb
   exact ⟨hlt,hwr b hb,fun f hS=>hc.dS l _ b f hl trivial hb hS,fun m om hm hv e=>hne m om hm hv (hc.dj m l om _ b (hokd m om hm hv).1 hl hv trivial e hb)⟩
  ·rw [h] at hb;simp only [Option.some.injEq] at hb;subst hb
   have:=hc.fm.size
   exact ⟨hlt,this,fun f hS=>Nat.lt_irrefl _ (hc.Sb f _ hS),fun m om hm hv e=>Nat.lt_irrefl _ (hc.lt m om _ (hokd m om hm hv).1 hv e)⟩
 have hS':∀ f b,S f b→w'.heap[b]?=w.heap[b]?:=fun f b hb=>hf.block b (hc.Sb f b hb) (fun e=>hc.dS l _ b f hl trivial e hb)
 have hcells:RepL w' (upd ρ l' v') S (St.U ⟨T,(l',.rowd e 1 f (es++btL bs.data.toList))::(l,.dead)::O⟩) (lift f (es++btL bs.data.toList).flatten) (xs++us):=by
  have h8:lift f (es++btL bs.data.toList).flatten=lift f es.flatten++lift f (btL bs.data.toList).flatten:=by simp [lift]
  rw [h8]
  exact (RepL.move (p:=fun _=>false) (fun _ _ h=>h) hS' (fun _ h=>by cases h) _ _ (qbU _ _ _) hr).append (RepL.move (p:=fun _=>false) (fun _ _ h=>h) hS' (fun _ h=>by cases h) _ _ (qbU _ _ _) hrep)
 have hc3:Conc c N ⟨T,(l',.rowd e 1 f (es++btL bs.data.toList))::(l,.dead)::O⟩ a w' (upd ρ l' v') S:=by
  refine hc2.addOb (by rw [qa0,if_neg hll];exact hl') hblk ⟨?_,xs++us,?_,?_,hcells⟩
  ·intro d hd
   rcases List.mem_append.1 hd with h|h
   ·exact hes d h
   ·exact btL_len1 _ d h
  ·rw [qbY,List.length_append,qhF,Array.length_toList];exact how'
  ·intro y hy
   rcases List.mem_append.1 hy with h|h
   ·exact h1 y h
   ·exact hone y h
 have hput:=hc3.put (dst:=o.dst) (v:=.row l') (x:=v') hdN (by
  simp only [Rep]
  obtain ⟨A',cc,hv⟩:=qf2 how'
  exact ⟨by simp [St.U,qa0],(qbY ρ l' v').symm,A',_,cc,hv⟩)
 have hex:(execOp a.eval o).run P w=.ok (.value v') w':=by
  simp only [execOp,ho,resolve]
  simp [Sem.run_bind,invoke,builtin,hse,hxe,hrun]
 unfold Oper.wp
 rw [hex]
 refine ⟨_,⟨_,_,hput⟩,?_⟩
 cases o.dst<;>rfl
theorem qho {ops:Array Oper}{rest:List Oper}{s:Operand}{t u e:TypeId}{d:Nat}(l':Nat)(ty:TyA P t e 1 1)(hz0:(P.info? e).map (·.zero)=some (some (.int .u8 0)))(hus:P.underlying u=some .string)(hg:o.guard=none)(hd:o.dst=some d)(hN:d<N)
  (ho:o.op=.call { callee:=.builtin .append,args:=#[s,x],argTypes:=#[t,u] }) (hs:ev T s=some (.row l)) (hl:ok O l=some (.rowd e 1 f es)) (hL:¬ c.L l) (hl':ok O l'=none) (hx:ev T x=some (.imm (.string bs))) (hb:es.length+bs.size≤140737488355328)
  (K:awps P c N ops rest Q ⟨(d,.row l')::T,(l',.rowd e 1 f (es++btL bs.data.toList))::(l,.dead)::O⟩):awps P c N ops (o::rest) Q ⟨T,O⟩:=by
 refine qcF hg fun a w hc=>Oper.wp_mono ?_ (qri (l':=l') ty hz0 hus ho (by intro e he;rw [hd] at he;cases he;exact hN) hs hl hL hl' hx hb a w hc)
 rintro a w ⟨σ2,h2,rfl⟩
 refine ⟨_,h2,?_⟩
 simpa [St.add,hd] using K
theorem qln {s d e:TypeId}{bs:List UInt8}(ho:o.op=.convert s d x)(hs:P.underlying s=some (.slice e))(he:P.underlying e=some (.int .u8))(hd:P.underlying d=some .string)
  (hx:ev σ.T x=some (.row l)) (hl:ok σ.O l=some (.rowd e 1 f (btL bs))):Stp P c N o σ [l] (.imm (.string ⟨bs.toArray⟩)) []:=by
 refine qaN fun σ' h1 h2 st w ρ S hc=>⟨_,?_,by simp only [Rep];rfl⟩
 have hx':=qaz hc (h1 x (by simp [ho,Op.operands]) _ hx)
 simp only [Rep] at hx'
 obtain ⟨hes,xs,how,h3,hr⟩:=hc.O l _ (h2 l (by simp) _ hl)
 have hxs:=qqx _ _ hr
 subst hxs
 rw [qhF] at how
 have hsz:(ByteArray.mk bs.toArray).size=bs.length:=by simp [ByteArray.size]
 simp only [execOp,ho,hx'.2.1]
 rcases how.2 with ⟨h7,h8⟩|⟨g,cap,cur,h7,_,_,_,_,_⟩
 ·have hnil:bs=[]:=List.eq_nil_of_length_eq_zero h8
  subst hnil
  rw [h7]
  have:=Lib.run_convert_nil_bytes (P:=P) w s d e 0 hs he hd
  simp [Sem.run_bind,this]
 ·have hB:Lib.Bytes w g 0 ⟨bs.toArray⟩:=fun i hi=>by
   rw [Nat.zero_add]
   refine qb8 how (by rw [h7];rfl) i _ ?_
   rw [hsz] at hi
   simp [List.getElem?_map,List.getElem?_eq_getElem hi]
   rfl
  have:=Lib.run_convert_whole (P:=P) w s e d hs he hd g 0 ⟨bs.toArray⟩ hB cap
  rw [hsz] at this
  rw [h7]
  simp [Sem.run_bind,this]
end
end Go.Proofs.YtpgceiijoedppaaGreat
namespace Go.Proofs.YtpgceiijoedppaaGreat
open Go
variable {O:List (Nat×Ob)}{T:List (Nat×AV)}{ops:Array Oper}{rest:List Oper}{v:AV}{w w':World}
mutual
def ShD:D→D→Prop
 | .imm v,d'=>∃ v',d'=.imm v'∧SpV v v'
 | .sl k es,d'=>∃ es',d'=.sl k es'∧(es'=[]∨ShEs es es')
def ShEs:List (List D)→List (List D)→Prop
 | [],es'=>es'=[]
 | e::es,es'=>∃ e' es'',es'=e'::es''∧ShCs e e'∧ShEs es es''
def ShCs:List D→List D→Prop
 | [],ds'=>ds'=[]
 | d::ds,ds'=>∃ d' ds'',ds'=d'::ds''∧ShD d d'∧ShCs ds ds''
end
mutual
theorem ShD.refl:∀ d:D,ShD d d
 | .imm v=>by simp only [ShD];exact ⟨v,rfl,.inl E⟩
 | .sl k es=>by simp only [ShD];exact ⟨es,rfl,.inr (ShEs.refl es)⟩
theorem ShEs.refl:∀ es:List (List D),ShEs es es
 | []=>by simp only [ShEs]
 | e::es=>by simp only [ShEs];exact ⟨e,es,rfl,ShCs.refl e,ShEs.refl es⟩
theorem ShCs.refl:∀ ds:List D,ShCs ds ds
 | []=>by simp only [ShCs]
 | d::ds=>by simp only [ShCs];exact ⟨d,ds,rfl,ShD.refl d,ShCs.refl ds⟩
end
theorem ShEs.length:∀ {es es':List (List D)},ShEs es es'→es'.length=es.length
 | [],es',h=>by simp only [ShEs] at h;rw [h]
 | e::es,es',h=>by simp only [ShEs] at h;obtain ⟨e',es'',rfl,_,h⟩:=h;simp [h.length]
theorem ShCs.length:∀ {ds ds':List D},ShCs ds ds'→ds'.length=ds.length
 | [],es',h=>by simp only [ShCs] at h;rw [h]
 | e::es,es',h=>by simp only [ShCs] at h;obtain ⟨e',es'',rfl,_,h⟩:=h;simp [h.length]
theorem SpB.cell {b off:Nat}{v:Value}(h:SpB w.heap[b]? w'.heap[b]?)(hv:w.cell? ⟨b,off,none⟩=some v):∃ v',w'.cell? ⟨b,off,none⟩=some v'∧SpV v v':=by
 rcases h with h|⟨cur,cur',ty,fr,h1,h2,hs,h⟩
 ·exact ⟨v,by rw [World.cell?_of_block (w:=w) h];exact hv,.inl E⟩
 ·simp only [World.cell?,h1] at hv
  have hv:cur[off]?=some v:=by simpa using hv
  have hlt:off<cur'.size:=by have:=(Array.getElem?_eq_some_iff.1 hv).1;omega
  refine ⟨cur'[off],?_,h off v _ hv (Array.getElem?_eq_getElem hlt)⟩
  simp only [World.cell?,h2]
  simp [hlt]
theorem SpB.al {b k off:Nat}(h:SpB w.heap[b]? w'.heap[b]?)(ha:Al w b k off):Al w' b k off:=by
 rcases h with h|⟨cur,cur',ty,fr,h1,h2,hs,h⟩
 ·exact ha.of_block h
 ·obtain ⟨h3,cur0,ty0,fr0,h4,h5⟩:=ha
  rw [h1] at h4;cases h4
  exact ⟨h3,cur',ty,fr,h2,h5⟩
theorem SpV.one {x y:Value}(h:SpV x y)(hx:x.oneCell'=true):y.oneCell'=true:=by
 rcases h with rfl|⟨_,_,_,rfl,rfl⟩|⟨_,_,rfl,rfl⟩|⟨_,_,_,rfl,rfl⟩
 ·exact hx
 ·rfl
 ·rfl
 ·rfl
mutual
theorem RepD.sp {w w':World}{F:Bool}{S:Nat→Prop}(hw:∀ b,S b→SpB w.heap[b]? w'.heap[b]?):∀ (d:D) (x:Value),RepD w F S d x→∃ d',ShD d d'∧RepD w' F S d' x
 | .imm v,x,h=>⟨.imm v,ShD.refl _,by simpa [RepD] using h⟩
 | .sl k es,x,h=>by
   simp only [RepD] at h
   obtain ⟨A,n,c,rfl,hn,hc,hm,h⟩:=h
   rcases h with h|⟨b,off,hA,hb,hal,h⟩
   ·exact ⟨.sl k es,ShD.refl _,by simp only [RepD];exact ⟨A,n,c,rfl,hn,hc,hm,.inl h⟩⟩
   ·obtain ⟨es',h1,h2⟩:=qcK.sp hw b k hb off es h
    refine ⟨.sl k es',by simp only [ShD];exact ⟨es',rfl,.inr h1⟩,?_⟩
    simp only [RepD]
    exact ⟨A,n,c,rfl,by rw [h1.length];exact hn,hc,hm,.inr ⟨b,off,hA,hb,fun e=>(hw b hb).al (hal e),h2⟩⟩
theorem qcK.sp {w w':World}{F:Bool}{S:Nat→Prop}(hw:∀ b,S b→SpB w.heap[b]? w'.heap[b]?)(b k:Nat)(hb:S b):∀ (off:Nat) (es:List (List D)),qcK w F S b k off es→∃ es',ShEs es es'∧qcK w' F S b k off es'
 | _,[],_=>⟨[],by simp only [ShEs],by simp [qcK]⟩
 | off,e::es,h=>by
   simp only [qcK] at h
   obtain ⟨e',h1,h2⟩:=qbX.sp hw b hb off e h.1.2
   obtain ⟨es',h3,h4⟩:=qcK.sp hw b k hb (off+k) es h.2
   refine ⟨e'::es',by simp only [ShEs];exact ⟨e',es',rfl,h1,h3⟩,?_⟩
   simp only [qcK]
   exact ⟨⟨by rw [h1.length];exact h.1.1,h2⟩,h4⟩
theorem qbX.sp {w w':World}{F:Bool}{S:Nat→Prop}(hw:∀ b,S b→SpB w.heap[b]? w'.heap[b]?)(b:Nat)(hb:S b):∀ (off:Nat) (ds:List D),qbX w F S b off ds→∃ ds',ShCs ds ds'∧qbX w' F S b off ds'
 | _,[],_=>⟨[],by simp only [ShCs],by simp [qbX]⟩
 | off,d::ds,h=>by
   simp only [qbX] at h
   obtain ⟨⟨v,hv,h1,hd⟩,h⟩:=h
   obtain ⟨ds',h3,h4⟩:=qbX.sp hw b hb (off+1) ds h
   obtain ⟨v',hv',hs⟩:=(hw b hb).cell hv
   have key:∃ d',ShD d d'∧RepD w' F S d' v':=by
    have hsame:v'=v→∃ d',ShD d d'∧RepD w' F S d' v':=fun e=>by rw [e];exact RepD.sp hw d v hd
    cases d with
    | imm u=>
      simp only [RepD] at hd;subst hd
      exact ⟨.imm v',by simp only [ShD];exact ⟨v',rfl,hs⟩,by simp [RepD]⟩
    | sl k es=>
      rcases hs with hs|⟨_,_,_,hs,_⟩|⟨_,_,hs,_⟩|⟨A,n,c,hs,rfl⟩
      ·exact hsame hs
      ·simp only [RepD] at hd;obtain ⟨_,_,_,h5,_⟩:=hd;rw [hs] at h5;cases h5
      ·simp only [RepD] at hd;obtain ⟨_,_,_,h5,_⟩:=hd;rw [hs] at h5;cases h5
      ·exact ⟨.sl k [],by simp only [ShD];exact ⟨[],rfl,.inl E⟩,by simp only [RepD];exact ⟨none,0,0,rfl,rfl,Nat.le_refl _,Nat.zero_le _,.inl E⟩⟩
   obtain ⟨d',h5,h6⟩:=key
   refine ⟨d'::ds',by simp only [ShCs];exact ⟨d',ds',rfl,h5,h3⟩,?_⟩
   simp only [qbX]
   exact ⟨⟨v',hv',hs.one h1,h6⟩,h4⟩
end
mutual
def ShV:AV→AV→Prop
 | .any,v'=>v'=.any
 | .imm v,v'=>v'=.imm v
 | .dat f k es,v'=>∃ es',v'=.dat f k es'∧(if f=true then ShEs es es' else es'=es)
 | .agg cs,v'=>∃ cs',v'=.agg cs'∧ShL cs cs'
 | .ptr l off,v'=>v'=.ptr l off
 | .elp f cs,v'=>∃ cs',v'=.elp f cs'∧(if f=true then ShCs cs cs' else cs'=cs)
 | .row l,v'=>v'=.row l
 | .fn f cs,v'=>∃ cs',v'=.fn f cs'∧ShL cs cs'
 | .map l,v'=>v'=.map l
 | .tup cs,v'=>∃ cs',v'=.tup cs'∧ShL cs cs'
 | .vw l off n c,v'=>v'=.vw l off n c
def ShL:List AV→List AV→Prop
 | [],vs'=>vs'=[]
 | v::vs,vs'=>∃ v' vs'',vs'=v'::vs''∧ShV v v'∧ShL vs vs''
end
mutual
theorem ShV.refl:∀ v:AV,ShV v v
 | .any=>by simp only [ShV]
 | .imm v=>by simp only [ShV]
 | .dat f k es=>by simp only [ShV];exact ⟨es,rfl,by split;exact ShEs.refl es;rfl⟩
 | .agg cs=>by simp only [ShV];exact ⟨cs,rfl,ShL.refl cs⟩
 | .ptr l off=>by simp only [ShV]
 | .elp f cs=>by simp only [ShV];exact ⟨cs,rfl,by split;exact ShCs.refl cs;rfl⟩
 | .row l=>by simp only [ShV]
 | .fn f cs=>by simp only [ShV];exact ⟨cs,rfl,ShL.refl cs⟩
 | .map l=>by simp only [ShV]
 | .tup cs=>by simp only [ShV];exact ⟨cs,rfl,ShL.refl cs⟩
 | .vw l off n c=>by simp only [ShV]
theorem ShL.refl:∀ vs:List AV,ShL vs vs
 | []=>by simp only [ShL]
 | v::vs=>by simp only [ShL];exact ⟨v,vs,rfl,ShV.refl v,ShL.refl vs⟩
end
theorem ShL.length:∀ {vs vs':List AV},ShL vs vs'→vs'.length=vs.length
 | [],es',h=>by simp only [ShL] at h;rw [h]
 | e::es,es',h=>by simp only [ShL] at h;obtain ⟨e',es'',rfl,_,h⟩:=h;simp [h.length]
mutual
theorem Rep.sp {w w':World}{ρ:Nat→Value}{S:Bool→Nat→Prop}{U:Nat→Prop}(hT:∀ b,S true b→SpB w.heap[b]? w'.heap[b]?)(hF:∀ b,S false b→w'.heap[b]?=w.heap[b]?):∀ (v:AV) (x:Value),Rep w ρ S U v x→∃ v',ShV v v'∧Rep w' ρ S U v' x
 | .any,x,h=>⟨.any,ShV.refl _,by simp [Rep]⟩
 | .imm v,x,h=>⟨.imm v,ShV.refl _,by simpa [Rep] using h⟩
 | .dat f k es,x,h=>by
   simp only [Rep] at h
   cases f with
   | false=>exact ⟨_,ShV.refl _,by simp only [Rep];exact RepD.mono id (fun _ h=>h) hF _ _ h⟩
   | true=>
     obtain ⟨d',h1,h2⟩:=RepD.sp hT _ _ h
     simp only [ShD] at h1
     obtain ⟨es',rfl,h1⟩:=h1
     by_cases he:es'=[]
     ·have hlen:es.length=0:=by
       subst he
       simp only [RepD] at h h2
       obtain ⟨A,n,c,hx,hn,_⟩:=h
       obtain ⟨A',n',c',hx',hn',_⟩:=h2
       rw [hx] at hx';cases hx';rw [← hn,hn'];rfl
      have he2:es=[]:=List.eq_nil_of_length_eq_zero hlen
      subst he;subst he2
      exact ⟨.dat true k [],ShV.refl _,by simp only [Rep];exact h2⟩
     ·exact ⟨.dat true k es',by simp only [ShV];exact ⟨es',rfl,by simpa using h1.resolve_left he⟩,by simp only [Rep];exact h2⟩
 | .agg cs,x,h=>by
   simp only [Rep] at h
   obtain ⟨xs,hx,h1,h⟩:=h
   obtain ⟨cs',h2,h3⟩:=RepL.sp hT hF cs xs h
   exact ⟨.agg cs',by simp only [ShV];exact ⟨cs',rfl,h2⟩,by simp only [Rep];exact ⟨xs,hx,h1,h3⟩⟩
 | .ptr l off,x,h=>⟨.ptr l off,ShV.refl _,by simpa only [Rep] using h⟩
 | .elp f cs,x,h=>by
   simp only [Rep] at h
   obtain ⟨b,off,hx,hb,h⟩:=h
   cases f with
   | false=>exact ⟨_,ShV.refl _,by simp only [Rep];exact ⟨b,off,hx,hb,qbX.mono id (fun _ h=>h) hF b hb off cs h⟩⟩
   | true=>
     obtain ⟨cs',h1,h2⟩:=qbX.sp hT b hb off cs h
     exact ⟨.elp true cs',by simp only [ShV];exact ⟨cs',rfl,by simpa using h1⟩,by simp only [Rep];exact ⟨b,off,hx,hb,h2⟩⟩
 | .row l,x,h=>⟨.row l,ShV.refl _,by simpa only [Rep] using h⟩
 | .fn f cs,x,h=>by
   simp only [Rep] at h
   obtain ⟨xs,hx,h⟩:=h
   obtain ⟨cs',h2,h3⟩:=RepL.sp hT hF cs xs h
   exact ⟨.fn f cs',by simp only [ShV];exact ⟨cs',rfl,h2⟩,by simp only [Rep];exact ⟨xs,hx,h3⟩⟩
 | .map l,x,h=>⟨.map l,ShV.refl _,by simpa only [Rep] using h⟩
 | .tup cs,x,h=>by
   simp only [Rep] at h
   obtain ⟨xs,hx,h⟩:=h
   obtain ⟨cs',h2,h3⟩:=RepL.sp hT hF cs xs h
   exact ⟨.tup cs',by simp only [ShV];exact ⟨cs',rfl,h2⟩,by simp only [Rep];exact ⟨xs,hx,h3⟩⟩
 | .vw l off n c,x,h=>⟨.vw l off n c,ShV.refl _,by simpa only [Rep] using h⟩
theorem RepL.sp {w w':World}{ρ:Nat→Value}{S:Bool→Nat→Prop}{U:Nat→Prop}(hT:∀ b,S true b→SpB w.heap[b]? w'.heap[b]?)(hF:∀ b,S false b→w'.heap[b]?=w.heap[b]?):∀ (vs:List AV) (xs:List Value),RepL w ρ S U vs xs→∃ vs',ShL vs vs'∧RepL w' ρ S U vs' xs
 | [],xs,h=>⟨[],by simp only [ShL],by simpa [RepL] using h⟩
 | v::vs,xs,h=>by
   simp only [RepL] at h
   obtain ⟨y,ys,hx,h1,h2⟩:=h
   obtain ⟨v',h3,h4⟩:=Rep.sp hT hF v y h1
   obtain ⟨vs',h5,h6⟩:=RepL.sp hT hF vs ys h2
   exact ⟨v'::vs',by simp only [ShL];exact ⟨v',vs',rfl,h3,h5⟩,by simp only [RepL];exact ⟨y,ys,hx,h4,h6⟩⟩
end
def ShOb:Ob→Ob→Prop
 | .box cs,o'=>∃ cs',o'=.box cs'∧ShL cs cs'
 | .row e k cs,o'=>∃ cs',o'=.row e k cs'∧ShL cs cs'
 | .rowd e k f es,o'=>o'=if f=true then .dead else .rowd e k f es
 | .mp P k ks,o'=>o'=.mp P k ks
 | .dead,o'=>o'=.dead
 | .arr e k f es,o'=>o'=if f=true then .dead else .arr e k f es
 | .mx it P k kvs cur,o'=>o'=.mx it P k kvs cur
def ShT:List (Nat×AV)→List (Nat×AV)→Prop
 | [],T'=>T'=[]
 | (t,v)::T,T'=>∃ v' T'',T'=(t,v')::T''∧ShV v v'∧ShT T T''
def ShO:List (Nat×Ob)→List (Nat×Ob)→Prop
 | [],O'=>O'=[]
 | (t,v)::O,O'=>∃ v' O'',O'=(t,v')::O''∧ShOb v v'∧ShO O O''
theorem ShOb.live {o o':Ob}(h:ShOb o o')(hl:o'.live):o.live:=by
 cases o with
 | box cs=>trivial
 | row e k cs=>trivial
 | rowd e k f es=>trivial
 | mp P k ks=>trivial
 | dead=>simp only [ShOb] at h;rw [h] at hl;exact hl
 | arr e k f es=>trivial
 | mx it P k kvs cur=>trivial
theorem ShOb.ex (o:Ob):∃ o',ShOb o o':=by
 cases o with
 | box cs=>exact ⟨.box cs,cs,rfl,ShL.refl cs⟩
 | row e k cs=>exact ⟨.row e k cs,cs,rfl,ShL.refl cs⟩
 | rowd e k f es=>exact ⟨_,rfl⟩
 | mp P k ks=>exact ⟨_,rfl⟩
 | dead=>exact ⟨_,rfl⟩
 | arr e k f es=>exact ⟨_,rfl⟩
 | mx it P k kvs cur=>exact ⟨_,rfl⟩
theorem ShT.build {R:Nat→AV→Prop}{R':Nat→AV→Prop}(hR:∀ t v,R t v→∃ v',ShV v v'∧R' t v'):∀ (T:List (Nat×AV)) (p:Nat→Prop),(∀ t v,¬ p t→lk T t=some v→R t v)→∃ T',ShT T T'∧∀ t v,¬ p t→lk T' t=some v→R' t v
 | [],p,h=>⟨[],by simp only [ShT],fun t v _ hv=>by simp [lk] at hv⟩
 | (s,v)::T,p,h=>by
   obtain ⟨T'',h1,h2⟩:=ShT.build hR T (fun t=>p t∨t=s) (fun t u hp hu=>h t u (fun k=>hp (.inl k)) (by rw [qcm,if_neg (fun e=>hp (.inr e.symm))];exact hu))
   obtain ⟨v',h3,h4⟩:∃ v',ShV v v'∧(¬ p s→R' s v'):=by
    by_cases hp:p s
    ·exact ⟨v,ShV.refl v,fun k=>absurd hp k⟩
    ·obtain ⟨v',h3,h4⟩:=hR s v (h s v hp (by rw [qcm,if_pos rfl]))
     exact ⟨v',h3,fun _=>h4⟩
   refine ⟨(s,v')::T'',by simp only [ShT];exact ⟨v',T'',rfl,h3,h1⟩,fun t u hp hu=>?_⟩
   rw [qcm] at hu
   split at hu
   ·rename_i e;subst e;cases hu;exact h4 hp
   ·rename_i e;exact h2 t u (fun k=>k.elim hp (fun k=>e k.symm)) hu
theorem ShO.build {R:Nat→Ob→Prop}{R':Nat→Ob→Prop}(hR:∀ t v,R t v→∃ v',ShOb v v'∧R' t v'):∀ (T:List (Nat×Ob)) (p:Nat→Prop),(∀ t v,¬ p t→ok T t=some v→R t v)→∃ T',ShO T T'∧∀ t v,¬ p t→ok T' t=some v→R' t v
 | [],p,h=>⟨[],by simp only [ShO],fun t v _ hv=>by simp [ok] at hv⟩
 | (s,v)::T,p,h=>by
   obtain ⟨T'',h1,h2⟩:=ShO.build hR T (fun t=>p t∨t=s) (fun t u hp hu=>h t u (fun k=>hp (.inl k)) (by rw [qa0,if_neg (fun e=>hp (.inr e.symm))];exact hu))
   obtain ⟨v',h3,h4⟩:∃ v',ShOb v v'∧(¬ p s→R' s v'):=by
    by_cases hp:p s
    ·obtain ⟨v',h3⟩:=ShOb.ex v
     exact ⟨v',h3,fun k=>absurd hp k⟩
    ·obtain ⟨v',h3,h4⟩:=hR s v (h s v hp (by rw [qa0,if_pos rfl]))
     exact ⟨v',h3,fun _=>h4⟩
   refine ⟨(s,v')::T'',by simp only [ShO];exact ⟨v',T'',rfl,h3,h1⟩,fun t u hp hu=>?_⟩
   rw [qa0] at hu
   split at hu
   ·rename_i e;subst e;cases hu;exact h4 hp
   ·rename_i e;exact h2 t u (fun k=>k.elim hp (fun k=>e k.symm)) hu
theorem ShO.inD:∀ {O O':List (Nat×Ob)},ShO O O'→∀ l,(ok O' l).isSome=(ok O l).isSome
 | [],O',h,l=>by simp only [ShO] at h;rw [h]
 | (s,v)::O,O',h,l=>by
   simp only [ShO] at h
   obtain ⟨v',O'',rfl,_,h⟩:=h
   simp only [qa0]
   split
   ·rfl
   ·exact h.inD l
theorem ShO.get:∀ {O O':List (Nat×Ob)},ShO O O'→∀ {l:Nat} {o':Ob},ok O' l=some o'→∃ o,ok O l=some o∧ShOb o o'
 | [],O',h,l,o',ho=>by simp only [ShO] at h;rw [h] at ho;simp [ok] at ho
 | (s,v)::O,O',h,l,o',ho=>by
   simp only [ShO] at h
   obtain ⟨v',O'',rfl,h1,h⟩:=h
   rw [qa0] at ho ⊢
   split at ho
   ·rename_i e;rw [if_pos e];cases ho;exact ⟨v,rfl,h1⟩
   ·rename_i e;rw [if_neg e];exact h.get ho
section
variable {P:Program}{c:Ctx}{N:Nat}{Q:Exit→St→Prop}{σ:St}{o:Oper}
theorem Conc.spoil {a:Act}{ρ:Nat→Value}{S:Bool→Nat→Prop}(hc:Conc c N ⟨T,O⟩ a w ρ S)(hf:Far (S true) w w')(hsp:∀ b,S true b→SpB w.heap[b]? w'.heap[b]?)(hQW:∀ b,c.Q b→c.W b):
    ∃ T' O',ShT T T'∧ShO O O'∧Conc c N ⟨T',O'⟩ a w' ρ S:=by
  have hF:∀ b,S false b→w'.heap[b]?=w.heap[b]?:=fun b hb=>hf.block b (hc.Sb _ b hb) (fun h=>hc.SS b ⟨h,hb⟩)
  obtain ⟨T',hT1,hT2⟩:=ShT.build (R:=fun t v=>Rep w ρ S (St.U ⟨T,O⟩) v (a.tmps.getD t undef)) (R':=fun t v=>Rep w' ρ S (St.U ⟨T,O⟩) v (a.tmps.getD t undef)) (fun t v h=>Rep.sp hsp hF v _ h) T (fun _=>False) (fun t v _ h=>hc.T t v h)
  obtain ⟨O',hO1,hO2⟩:=ShO.build (R:=fun l o=>ok O l=some o) (R':=fun l o=>ObOk w' ρ S (St.U ⟨T,O⟩) l o) (fun l om h2=>by
    have hob:=hc.O l om h2
    have hbl:om.live→∀ b,blk (ρ l)=some b→w'.heap[b]?=w.heap[b]?:=fun hl b hb=>hf.block b (hc.lt l om b h2 hl hb) (fun h=>hc.dS l om b true h2 hl hb h)
    cases om with
    | box cs=>
      obtain ⟨b,ty,ys,h3,h4,h5,h6⟩:=hob
      obtain ⟨cs',h7,h8⟩:=RepL.sp hsp hF cs ys h6
      exact ⟨.box cs',⟨cs',rfl,h7⟩,b,ty,ys,h3,by rw [hbl trivial b (by rw [h3];rfl)];exact h4,h5,h8⟩
    | row e k cs=>
      obtain ⟨n,xs,h1,h2,h3⟩:=hob
      obtain ⟨cs',h7,h8⟩:=RepL.sp hsp hF cs xs h3
      exact ⟨.row e k cs',⟨cs',rfl,h7⟩,n,xs,qcl h1 (hbl trivial),h2,h8⟩
    | rowd e k f es=>
      cases f with
      | true=>exact ⟨.dead,rfl,trivial⟩
      | false=>
        refine ⟨.rowd e k false es,rfl,?_⟩
        exact ObOk.gen (q:=fun f=>!f) (p:=fun _=>true) (fun _ _ _ h=>h) (fun f b hq hb=>by cases f;exact hF b hb;cases hq) (fun l _ h=>⟨h,rfl⟩) E E E (hbl trivial) hob
    | mp P k ks=>
      obtain ⟨r,h1,h3⟩:=hob
      exact ⟨.mp P k ks,rfl,r,h1,h3.of_block (hbl trivial r (by simp [h1,blk]))⟩
    | dead=>exact ⟨.dead,rfl,trivial⟩
    | arr e k f es=>
      cases f with
      | true=>exact ⟨.dead,rfl,trivial⟩
      | false=>
        refine ⟨.arr e k false es,rfl,?_⟩
        exact ObOk.gen (q:=fun f=>!f) (p:=fun _=>true) (fun _ _ _ h=>h) (fun f b hq hb=>by cases f;exact hF b hb;cases hq) (fun l _ h=>⟨h,rfl⟩) E E E (hbl trivial) hob
    | mx it P k kvs cur=>exact ⟨.mx it P k kvs cur,rfl,MxOk.mono (fun _ h=>h) hF (hbl trivial) hob⟩) O (fun _=>False) (fun l om _ h=>h)
  have hU:∀ m,St.U ⟨T,O⟩ m→St.U ⟨T',O'⟩ m:=fun m hm=>by simp only [St.U] at hm ⊢;rw [hO1.inD m];exact hm
  refine ⟨T',O',hT1,hO1,hc.tm,hc.df,fun t v ht=>(hT2 t v (fun h=>h) ht).mono (fun _ _ h=>h) (fun _ _ _=>rfl) hU (fun _ _=>rfl),fun m om hm=>?_,fun m m' om om' b h2 h3 h4 h5 h6 h7=>?_,fun m om b g h2 h3 h4=>?_,fun m om b h2 h3 h4=>?_,fun m om b h2 h3 h4=>?_,hc.SS,fun f b h=>Nat.lt_of_lt_of_le (hc.Sb f b h) hf.size,hc.Sn,hc.So,fun m hm=>?_,?_⟩
  · obtain ⟨o1,k1,k2⟩:=hO1.get hm
    exact (hO2 m om (fun h=>h) hm).mono (fun _ _ h=>h) (fun _ _ _=>rfl) hU (fun _ _=>rfl) (by simp [St.U,k1]) (fun _ _=>rfl)
  · obtain ⟨o1,k1,k2⟩:=hO1.get h2
    obtain ⟨o2,k3,k4⟩:=hO1.get h3
    exact hc.dj m m' o1 o2 b k1 k3 (k2.live h4) (k4.live h5) h6 h7
  · obtain ⟨o1,k1,k2⟩:=hO1.get h2
    exact hc.dS m o1 b _ k1 (k2.live h3) h4
  · obtain ⟨o1,k1,k2⟩:=hO1.get h2
    exact hc.wr m o1 b k1 (k2.live h3) h4
  · obtain ⟨o1,k1,k2⟩:=hO1.get h2
    exact Nat.lt_of_lt_of_le (hc.lt m o1 b k1 (k2.live h3) h4) hf.size
  · obtain ⟨h2,h3⟩:=hc.lo m hm
    exact ⟨hU m h2,h3⟩
  · have hk:=hf.far0
    refine ⟨⟨hk.os.trans hc.fm.os,hk.tape.trans hc.fm.tape,hk.output.trans hc.fm.output,Nat.le_trans hc.fm.size hk.size,fun b hb hw=>?_⟩,fun hD=>Nat.le_trans (hc.fm.dr hD) hf.dr,hc.fm.vq,hc.fm.vs,fun b hb hl=>?_,fun b hb=>?_⟩
    · refine (hk.block b (Nat.lt_of_lt_of_le hb hc.fm.size) (fun h=>?_)).trans (hc.fm.block b hb hw)
      rcases hc.Sn b h with h|h
      · exact hw (hQW b h)
      · omega
    · refine (hc.fm.sp b hb hl).trans ?_
      obtain ⟨f,h⟩:=hc.fm.vs b hb
      cases f with
      | true=>exact hsp b h
      | false=>exact .inl (hF b h)
    · obtain ⟨cur,ty,h⟩:=hc.fm.uf b hb
      rcases hsp b hb with h1|⟨u,v,ty',fr,h1,h2,_⟩
      · exact ⟨cur,ty,by rw [h1];exact h⟩
      · rw [h] at h1;cases h1;exact ⟨v,ty,h2⟩
def SPC (P:Program)(g:FuncId)(v:AV):Prop:=∀ (w:World) (S:Nat→Prop) (x:Value),(∀ b,S b→b<w.heap.size)→(∀ b,S b→∃ cur ty,w.heap[b]?=some (.cells cur ty (0,0)))→Rep w (fun _=>undef) (fun f b=>f=true∧S b) (fun _=>False) v x→
 Calls P g #[x] w fun e w'=>e=.returned (.tuple #[])∧Far S w w'∧∀ b,S b→SpB w.heap[b]? w'.heap[b]?
theorem qff {x y:Operand}{tys:Array TypeId}{g:FuncId}{d:Nat}(hg:o.guard=none)
  (ho:o.op=.call { callee:=.value x,args:=#[y],argTypes:=tys }) (hd:o.dst=some d) (hN:d<N) (hen:qY P g) (hx:ev T x=some (.fn g [])) (hy:ev T y=some v) (hL:v.allL (fun _=>false)=true) (hq:v.allQ (fun f=>f)=true) (H:SPC P g v) (hQW:∀ b,c.Q b→c.W b)
  (K:∀ T' O',ShT T T'→ShO O O'→awps P c N ops rest Q ⟨(d,.any)::T',O'⟩):awps P c N ops (o::rest) Q ⟨T,O⟩:=by
 refine qcF hg ?_
 rintro a w ⟨ρ,S,hc⟩
 have hf:=qaz hc hx
 simp only [Rep] at hf
 obtain ⟨cs,hfe,hcs⟩:=hf
 simp only [RepL] at hcs;subst hcs
 have hv:=qaz hc hy
 have hv2:Rep w (fun _=>undef) (fun f b=>f=true∧S true b) (fun _=>False) v (a.eval y):=
  Rep.gen (q:=fun f=>f) (p:=fun _=>false) (fun f b e h=>⟨e,by subst e;exact h⟩) (fun _ _ _ _=>rfl) (fun _ h=>by cases h) v _ hL hq hv
 have hcall:=H w (S true) (a.eval y) (fun b hb=>hc.Sb _ b hb) hc.fm.uf hv2
 have hex:(execOp a.eval o).run P w=.ok (.enter g #[a.eval y]) w:=by
  simp only [execOp,ho,resolve]
  simp [Sem.run_bind,hfe,Deferred.ofValue,invoke,hen _ _]
 unfold Oper.wp
 rw [hex]
 simp only [Oper.upon_enter]
 refine Calls.mono hcall ?_
 rintro e w' ⟨rfl,hfar,hsp⟩
 obtain ⟨T',O',h1,h2,h3⟩:=hc.spoil hfar hsp hQW
 refine ⟨⟨(d,.any)::T',O'⟩,⟨ρ,S,?_⟩,K T' O' h1 h2⟩
 rw [hd]
 exact h3.put (dst:=some d) (v:=.any) (fun e he=>by cases he;exact hN) (by simp [Rep])
def spOk:List D→List AV→Bool
 | [],[]=>true
 | .imm (.int k _)::ds,.imm (.int k' _)::vs=>decide (k=k')&&spOk ds vs
 | .imm (.string _)::ds,.imm (.string _)::vs=>spOk ds vs
 | .sl _ _::ds,.imm (.slice none 0 0)::vs=>spOk ds vs
 | _,_=>false
theorem qlM {w:World}{F:Bool}{S:Nat→Prop}{ρ:Nat→Value}{S':Bool→Nat→Prop}{U:Nat→Prop}{b:Nat}:∀ (ds:List D) (vs:List AV) (xs:List Value) (off:Nat),spOk ds vs=true→qbX w F S b off ds→RepL w ρ S' U vs xs→∀ (j:Nat) (y:Value),xs[j]?=some y→∃ x,w.cell? ⟨b,off+j,none⟩=some x∧SpV x y
 | [],[],xs,off,_,_,hx,j,y,hy=>by simp only [RepL] at hx;rw [hx] at hy;simp at hy
 | [],_::_,xs,off,h,_,_,_,_,_=>by simp [spOk] at h
 | d::ds,[],xs,off,h,_,_,_,_,_=>by cases d with
   | imm v=>cases v<;>simp [spOk] at h
   | sl k es=>simp [spOk] at h
 | d::ds,v::vs,xs,off,h,hc,hx,j,y,hy=>by
   simp only [qbX] at hc
   obtain ⟨⟨x,hx1,_,hd⟩,hc⟩:=hc
   simp only [RepL] at hx
   obtain ⟨z,zs,rfl,hz,hx⟩:=hx
   have key:spOk ds vs=true∧SpV x z:=by
    cases d with
    | imm u=>
      simp only [RepD] at hd;subst hd
      cases v with
      | imm u'=>
        simp only [Rep] at hz;subst hz
        cases x<;>cases z<;>simp only [spOk,Bool.and_eq_true,decide_eq_true_eq,Bool.false_eq_true] at h
        ·obtain ⟨rfl,h⟩:=h;exact ⟨h,.inr (.inl ⟨_,_,_,rfl,rfl⟩)⟩
        ·exact ⟨h,.inr (.inr (.inl ⟨_,_,rfl,rfl⟩))⟩
      | _=>cases x<;>simp [spOk] at h
    | sl k es=>
      simp only [RepD] at hd
      obtain ⟨A,n,c,rfl,_⟩:=hd
      cases v with
      | imm u'=>
        simp only [Rep] at hz;subst hz
        have:z=.slice none 0 0:=by
         cases z with
         | slice A n c=>
           cases A<;>cases n<;>cases c<;>first|rfl|simp [spOk] at h
         | _=>simp [spOk] at h
        subst this
        simp only [spOk] at h
        exact ⟨h,.inr (.inr (.inr ⟨_,_,_,rfl,rfl⟩))⟩
      | _=>simp [spOk] at h
   cases j with
   | zero=>simp only [List.getElem?_cons_zero,Option.some.injEq] at hy;subst hy;exact ⟨x,by simpa using hx1,key.2⟩
   | succ j=>
     obtain ⟨u,h1,h2⟩:=qlM ds vs zs (off+1) key.1 hc hx j y (by simpa using hy)
     exact ⟨u,by rw [show off+(j+1)=off+1+j by omega];exact h1,h2⟩
theorem qep {x y:Operand}{t:TypeId}{b:Bool}{n:Nat}{cs:List D}{vs:List AV}(hg:o.guard=none)(ho:o.op=.store t x y)(hd:o.dst=none)(ht:tfB P t b n=true)
  (hx:ev T x=some (.elp true cs)) (hy:ev T y=some v) (hv:v.cellsOf=some vs) (hn:vs.length=n) (h0:0<n) (hs:spOk cs vs=true) (hQW:∀ b,c.Q b→c.W b)
  (K:∀ T' O',ShT T T'→ShO O O'→awps P c N ops rest Q ⟨T',O'⟩):awps P c N ops (o::rest) Q ⟨T,O⟩:=by
 refine qcF hg ?_
 rintro a w ⟨ρ,S,hc⟩
 have hx':=qaz hc hx
 have hy':=qaz hc hy
 simp only [Rep] at hx'
 obtain ⟨g,off,hxe,hSg,hcs⟩:=hx'
 obtain ⟨xs,hxs,h1,hr⟩:=qey hv hy'
 obtain ⟨cur,ty,hh⟩:=hc.fm.uf g hSg
 have hlen:=hr.length
 have hold:=qlM cs vs xs off hs hcs hr
 have hcell:∀ j u,w.cell? ⟨g,j,none⟩=some u→cur[j]?=some u:=fun j u hu=>by simp only [World.cell?,hh] at hu;simpa using hu
 have hle:off+xs.length≤cur.size:=by
  have hpos:0<xs.length:=by omega
  obtain ⟨u,hu⟩:=hold (xs.length-1) _ (List.getElem?_eq_getElem (by omega))
  have:=(Array.getElem?_eq_some_iff.1 (hcell _ _ hu.1)).1
  omega
 have hh':w.heap[g]?=some (.cells cur.toList.toArray ty (0,0)):=by simpa using hh
 have hrun:=qdA ht w g off ty (a.eval y) xs cur.toList hxs h1 (by omega) hh' (by simp;omega)
 have hfar:Far (S true) w (w.setRow g (qau cur.toList off xs).toArray):=(qeC w g _).mono fun b _ e=>by cases e;exact hSg
 have hnew:=setRow_heap w g _ (qau cur.toList off xs).toArray ty _ hh'
 have hsp:∀ b,S true b→SpB w.heap[b]? (w.setRow g (qau cur.toList off xs).toArray).heap[b]?:=fun b hb=>by
  by_cases e:b=g
  ·subst e
   refine .inr ⟨cur,(qau cur.toList off xs).toArray,ty,(0,0),hh,hnew,?_,fun i p q hp hq=>?_⟩
   ·rw [List.size_toArray,qa9 (by simp;omega)];simp
   ·have hq':(qau cur.toList off xs)[i]?=some q:=by simpa using hq
    have hp':cur.toList[i]?=some p:=by simpa using hp
    rcases Nat.lt_or_ge i off with hi|hi
    ·rw [qau,List.append_assoc,List.getElem?_append_left (by simp;omega),List.getElem?_take_of_lt hi,hp'] at hq'
     cases hq';exact .inl E
    ·rcases Nat.lt_or_ge i (off+xs.length) with hj|hj
     ·rw [qau,List.append_assoc,List.getElem?_append_right (by simp;omega),List.getElem?_append_left (by simp;omega)] at hq'
      have e1:i-(cur.toList.take off).length=i-off:=by simp;omega
      rw [e1] at hq'
      obtain ⟨u,hu,hs2⟩:=hold (i-off) q hq'
      have h3:=hcell _ _ hu
      rw [show off+(i-off)=i by omega,hp] at h3
      cases h3;exact hs2
     ·rw [qau,List.append_assoc,List.getElem?_append_right (by simp;omega),List.getElem?_append_right (by simp;omega),List.getElem?_drop] at hq'
      rw [show off+xs.length+(i-(cur.toList.take off).length-xs.length)=i by simp;omega,hp'] at hq'
      cases hq';exact .inl E
  ·have:(w.setRow g (qau cur.toList off xs).toArray).heap[b]?=w.heap[b]?:=setRow_other w g b _ e
   rw [this];exact .inl E
 obtain ⟨T',O',h5,h6,h7⟩:=hc.spoil hfar hsp hQW
 have hex:(execOp a.eval o).run P w=.ok .skip (w.setRow g (qau cur.toList off xs).toArray):=by
  simp only [execOp,ho,Instr.storeAt,hxe,Instr.sureAddr]
  simp [Sem.run_bind,hrun]
 unfold Oper.wp
 rw [hex]
 simp only [Oper.upon_skip]
 refine ⟨⟨T',O'⟩,?_,K T' O' h5 h6⟩
 rw [hd];exact ⟨ρ,S,h7⟩
theorem qiZ {f:FuncId}{fn:Func}{x:Code}(hf:P.funcs[f]?=some fn)(hb:fn.body=some x)(hN:fn.ntmps=N)(hn:1≤N)(hL:v.allL (fun _=>false)=true)
  (H:∀ c,(∀ l,c.L l↔inD [] l=true)→(∀ b,c.Q b→c.W b)→DOk true c→awp P c N x (retQ P c N fn.results.toList (fun r O=>r=.tup []∧O=[])) ⟨argT 0 [v],[]⟩):SPC P f v:=by
 intro w S y hSb hSu hv
 let c:Ctx:=⟨w,S,fun _=>False,fun _=>undef,fun _=>False,S,True,S⟩
 have hc:Conc c 1 ⟨argT 0 [v],[]⟩ ⟨#[y],[]⟩ w (fun _=>undef) (fun f b=>f=true∧S b):=by
  refine ⟨rfl,rfl,fun t u ht=>?_,fun l o hl=>(by simp [ok] at hl),fun l l' o o' b hl=>(by simp [ok] at hl),fun l o b f hl=>(by simp [ok] at hl),fun l o b hl=>(by simp [ok] at hl),fun l o b hl=>(by simp [ok] at hl),fun b hb=>(by cases hb.2.1),fun f b hb=>hSb b hb.2,fun b hb=>.inl hb.2,fun b hb=>(by cases hb.1),fun l hl=>hl.elim,Fm.start (c:=c) (fun _ h=>h) (fun b h=>⟨true,rfl,h⟩) (fun b h=>hSu b h.2)⟩
  simp only [argT,qcm] at ht
  split at ht
  ·rename_i e;subst e;cases ht
   exact hv.mono (fun _ _ h=>h) (fun _ _ _=>rfl) (fun _ h=>h.elim) (fun _ h=>h.elim)
  ·simp [lk] at ht
 refine (qpy (q:=fun c=>(∀ b,c.Q b→c.W b)∧DOk true c) (args:=[v]) (O:=[]) hf hb hN hn (fun c h1 h2=>H c h1 h2.1 h2.2) c w [y] (fun _=>undef) _ E (fun l=>⟨fun h=>h.elim,fun h=>by simp [inD,ok] at h⟩) ⟨fun _ h=>h,dOk_true c⟩ hc).mono ?_
 rintro e w' ⟨u,r,O',rfl,⟨rfl,rfl⟩,ρ',S',hc'⟩
 have hv':=hc'.T 0 _ E
 simp only [Rep,RepL] at hv'
 obtain ⟨xs,hx,rfl⟩:=hv'
 have hu:u=.tuple #[]:=by simpa using hx
 subst hu
 have hf:=hc'.fm
 exact ⟨rfl,⟨hf.os,hf.tape,hf.output,hf.size,hf.block,hf.dr trivial⟩,fun b hb=>hf.sp b hb (hSb b hb)⟩
end
end Go.Proofs.YtpgceiijoedppaaGreat
namespace Go.Proofs.YtpgceiijoedppaaGreat
open Go
variable {O:List (Nat×Ob)}{T:List (Nat×AV)}{b f:Bool}{d:List D}{e t:TypeId}{es:List (Option (List D))}{k l n off:Nat}{ops:Array Oper}{rest:List Oper}{v:AV}{vs:List AV}{x:Operand}
section
variable {P:Program}{c:Ctx}{N:Nat}{Q:Exit→St→Prop}{σ:St}{o:Oper}
theorem Conc.clearArr {a:Act}{w:World}{ρ:Nat→Value}{S:Bool→Nat→Prop}(hc:Conc c N ⟨T,O⟩ a w ρ S){i m b':Nat}{nz:Nat}{xs us:List Value}(hl:ok O l=some (.arr e k f es))(hb:ρ l=.slice (some ⟨b',0,none⟩) m m)
  (h3:ρ l=.slice (some ⟨b',0,none⟩) es.length es.length) (h4:w.heap[b']?=some (.cells xs.toArray e (0,0))) (h5:xs.length=es.length*k) (h6:es.length≤maxLen) (h7:∀ (i:Nat) (d:List D),es[i]?=some (some d)→d.length=k∧RepL w ρ S (St.U ⟨T,O⟩) (lift f d) ((xs.drop (i*k)).take k)∧∀ y∈(xs.drop (i*k)).take k,y.oneCell'=true)
  (hul:us.length=nz*k) (hfit:i+nz≤es.length) (hfit2:i*k+us.length≤xs.length) {w':World} (hw':w'=w.setRow b' (qau xs (i*k) us).toArray):
  Conc c N ⟨T,(l,.arr e k f (qau es i (List.replicate nz none)))::O⟩ a w' ρ S:=by
 subst hw'
 have hfar:Far (fun g=>blk (ρ l)=some g) w (w.setRow b' (qau xs (i*k) us).toArray):=by rw [hb];exact qeC w b' _
 have hU2:∀ m,St.U ⟨T,O⟩ m→St.U ⟨T,(l,.arr e k f (qau es i (List.replicate nz none)))::O⟩ m:=fun m hm=>qet m hm
 have hmono:∀ vs zs,RepL w ρ S (St.U ⟨T,O⟩) vs zs→RepL (w.setRow b' (qau xs (i*k) us).toArray) ρ S (St.U ⟨T,(l,.arr e k f (qau es i (List.replicate nz none)))::O⟩) vs zs:=fun vs zs hz=>
  hz.mono (fun _ _ h=>h) (fun g b hb'=>hfar.block b (hc.Sb g b hb') (fun e'=>hc.dS l _ b g hl trivial e' hb')) hU2 (fun _ _=>rfl)
 have hlen2:(qau es i (List.replicate nz none)).length=es.length:=qa9 (by simpa using hfit)
 have hob:ObOk (w.setRow b' (qau xs (i*k) us).toArray) ρ S (St.U ⟨T,(l,.arr e k f (qau es i (List.replicate nz none)))::O⟩) l (.arr e k f (qau es i (List.replicate nz none))):=by
  refine ⟨b',qau xs (i*k) us,by rw [hlen2];exact h3,setRow_heap w b' _ _ e _ h4,by rw [qa9 hfit2,hlen2];exact h5,by rw [hlen2];exact h6,fun j d hd=>?_⟩
  rw [qbu (by simpa using hfit)] at hd
  have seg:∀ (j0:Nat),(∀ p,p<k→(qau xs (i*k) us)[j*k+p]?=xs[j*k+p]?)→((qau xs (i*k) us).drop (j*k)).take k=(xs.drop (j*k)).take k:=fun _ hp=>by
   apply List.ext_getElem?
   intro p
   rw [List.getElem?_take,List.getElem?_take,List.getElem?_drop,List.getElem?_drop]
   split
   ·rename_i h;exact hp p h
   ·rfl
  by_cases c1:j<i
  ·rw [if_pos c1] at hd
   obtain ⟨g1,g2,g3⟩:=h7 j d hd
   have hjk:j*k+k≤i*k:=by rw [← Nat.succ_mul];exact Nat.mul_le_mul_right _ c1
   have e2:=seg 0 (fun p hp=>by rw [qbu hfit2,if_pos (by omega)])
   rw [e2]
   exact ⟨g1,hmono _ _ g2,g3⟩
  ·rw [if_neg c1] at hd
   by_cases c2:j<i+(List.replicate nz (none:Option (List D))).length
   ·rw [if_pos c2,List.getElem?_replicate] at hd
    split at hd<;>cases hd
   ·rw [if_neg c2] at hd
    simp only [List.length_replicate] at c2
    obtain ⟨g1,g2,g3⟩:=h7 j d hd
    have hjk:i*k+nz*k≤j*k:=by rw [← Nat.add_mul];exact Nat.mul_le_mul_right _ (by omega)
    have e2:=seg 0 (fun p hp=>by rw [qbu hfit2,if_neg (by omega),if_neg (by omega)])
    rw [e2]
    exact ⟨g1,hmono _ _ g2,g3⟩
 exact hc.modOb hl trivial hfar hob
theorem qqP {α:Type}{es:List α}{i:Nat}{x:α}(h:i<es.length):qau es i [x]=es.set i x:=by
 rw [qau,List.set_eq_take_append_cons_drop,if_pos h]
 simp
theorem qom (h:v.cellsOf=some vs)(h2:toDs f vs=some d):vs=lift f d:=qg0 h2
theorem qca {y:Operand}(i:Nat)(hg:o.guard=none)(ho:o.op=.store t x y)(hd:o.dst=none)(ht:tfB P t b n=true)
  (hx:ev T x=some (.ptr l off)) (hl:ok O l=some (.arr e k f es)) (hoff:off=i*k) (hi:i<es.length) (hy:ev T y=some v) (hv:v.cellsOf=some vs) (hvd:toDs f vs=some d) (hn:vs.length=n) (hk:n=k) (h0:Nat.ble 1 n=true)
  (K:awps P c N ops rest Q ⟨T,(l,.arr e k f (es.set i (some d)))::O⟩):awps P c N ops (o::rest) Q ⟨T,O⟩:=by
 refine qcF hg ?_
 rintro a w ⟨ρ,S,hc⟩
 have h0':=Nat.le_of_ble_eq_true h0
 subst hk
 obtain ⟨g,hgb,hx'⟩:=qgC hc hx
 have hy':=qaz hc hy
 obtain ⟨us,hus,hu1,hur⟩:=qey hv hy'
 have hul:=hur.length
 have hvl:=qom hv hvd
 have hdl:d.length=n:=by rw [← hn,hvl];simp [lift]
 obtain ⟨b',xs,h3,h4,h5,h6,h7⟩:=hc.O l _ hl
 have hb2:=h3
 rw [h3] at hgb;simp only [blk,Option.some.injEq] at hgb;subst hgb
 have hfit2:i*n+us.length≤xs.length:=by
  rw [h5,hul,hn,← Nat.succ_mul];exact Nat.mul_le_mul_right _ hi
 have hrun:=qdA ht w b' off e (a.eval y) us xs hus hu1 (by omega) h4 (by rw [hoff];omega)
 have hex:(execOp a.eval o).run P w=.ok .skip (w.setRow b' (qau xs off us).toArray):=by
  simp only [execOp,ho,Instr.storeAt,hx',Instr.sureAddr]
  simp [Sem.run_bind,hrun]
 have hnew:=hc.spliceArr (i:=i) (ds:=[d]) (us:=us) hl hb2 h3 h4 h5 h6 h7 (by simp;omega) hu1 (by simp only [List.flatten_cons,List.flatten_nil,List.append_nil];rw [← hvl];exact hur) (by intro x hx;simp only [List.mem_singleton] at hx;rw [hx];exact hdl) (by simp;omega) hfit2 E
 unfold Oper.wp
 rw [hex]
 simp only [Oper.upon_skip]
 have e1:qau es i ([d].map some)=es.set i (some d):=qqP hi
 rw [e1] at hnew
 refine ⟨_,?_,K⟩
 rw [hd,hoff];exact ⟨ρ,S,hnew⟩
theorem qmc {q:Nat}{zs:List Value}(i:Nat)(hg:o.guard=none)(ho:o.op=.call { callee:=.builtin .clear,args:=#[x],argTypes:=#[t] })(hd:o.dst=none)(ht:slB P t e k=true)(hz:zvB P e=some (some zs))(h1z:(zs.all fun x=>x.oneCell')=true)(hzl:zs.length=k)
  (hx:ev T x=some (.vw l off n q)) (hl:ok O l=some (.arr e k f es)) (hoff:0<n→off=i*k) (hfit:i+n≤es.length)
  (K:∀ es',es'.length=es.length→(∀ j,j<i→es'[j]?=es[j]?)→awps P c N ops rest Q ⟨T,(l,.arr e k f es')::O⟩):awps P c N ops (o::rest) Q ⟨T,O⟩:=by
 refine qcF hg ?_
 rintro a w ⟨ρ,S,hc⟩
 have h:=qaz hc hx
 simp only [Rep] at h
 obtain ⟨hU,b,⟨m,hb⟩,hx'⟩:=h
 obtain ⟨b',xs,h3,h4,h5,h6,h7⟩:=hc.O l _ hl
 have hb':=hb
 rw [h3] at hb'
 simp only [Value.slice.injEq,Option.some.injEq,Addr.mk.injEq] at hb'
 obtain ⟨⟨rfl,_⟩,_⟩:=hb'
 obtain ⟨it,h8,h9,h10⟩:=qcL ht
 obtain ⟨it',z,h11,h12,h13⟩:=qh3 hz
 rw [h9] at h11;simp only [Option.some.injEq] at h11;subst h11
 rcases Nat.eq_zero_or_pos n with hn0|hn0
 ·subst hn0
  have hex:(execOp a.eval o).run P w=.ok (.value (.tuple #[])) w:=by
   simp only [execOp,ho,resolve]
   simp [Sem.run_bind,invoke,builtin,hx',Builtin.clear_,run_underlying h8 w]
  unfold Oper.wp
  rw [hex]
  simp only [Oper.upon_value]
  refine ⟨⟨T,(l,.arr e k f es)::O⟩,?_,K es E (fun _ _=>rfl)⟩
  rw [hd]
  exact ⟨ρ,S,hc.modOb hl trivial (Far.refl _ _) ((hc.O l _ hl).mono (fun _ _ h=>h) (fun _ _ _=>rfl) qet (fun _ _=>rfl) (by simp [St.U,hl]) (fun _ _=>rfl))⟩
 ·have hoff':=hoff hn0
  have hzc:z.cells.size=k:=by rw [← hzl,← h13];simp
  let us:=(Builtin.zeroCells z.cells n).toList
  have hul:us.length=n*k:=by rw [← hzc];exact qdH _ _
  have hu1:∀ u∈us,u.oneCell'=true:=fun u hu=>by
   simp only [us,Builtin.zeroCells,Array.toList_map,List.mem_map] at hu
   obtain ⟨j,_,rfl⟩:=hu
   by_cases hk0:z.cells.size=0
   ·rw [getElem!_neg z.cells _ (by rw [hk0];omega)];rfl
   ·have hlt:j % z.cells.size<z.cells.size:=Nat.mod_lt _ (by omega)
    rw [getElem!_pos z.cells _ hlt]
    have hmem:z.cells[j % z.cells.size]∈zs:=by rw [← h13];exact Array.mem_toList_iff.2 (Array.getElem_mem hlt)
    exact List.all_eq_true.1 h1z _ hmem
  have hfit2:i*k+us.length≤xs.length:=by rw [hul,h5,← Nat.add_mul];exact Nat.mul_le_mul_right _ hfit
  have hst:=run_storeCells_at P b' (i*k) e us 0 xs.toArray w h4 (by simpa using hfit2) hu1
  simp only [Nat.add_zero] at hst
  have hst':(storeCells ⟨b',i*k,none⟩ us).run P w=.ok () (w.setRow b' (qau xs (i*k) us).toArray):=by
   simpa [qau] using hst
  have hex:(execOp a.eval o).run P w=.ok (.value (.tuple #[])) (w.setRow b' (qau xs (i*k) us).toArray):=by
   simp only [execOp,ho,resolve]
   subst hoff'
   obtain ⟨n',rfl⟩:∃ n',n=n'+1:=⟨n-1,by omega⟩
   simp [Sem.run_bind,invoke,builtin,hx',Builtin.clear_,run_underlying h8 w,qhz h9 h12,hst',us] at hst' ⊢
   first|done|(rw [hst'];rfl)
  have hnew:=hc.clearArr (i:=i) (nz:=n) (us:=us) hl hb h3 h4 h5 h6 h7 hul hfit hfit2 E
  unfold Oper.wp
  rw [hex]
  simp only [Oper.upon_value]
  refine ⟨_,?_,K (qau es i (List.replicate n none)) (qa9 (by simpa using hfit)) (fun j hj=>by rw [qbu (by simpa using hfit),if_pos hj])⟩
  rw [hd];exact ⟨ρ,S,hnew⟩
theorem qfH {es:List (List D)}(i j:Nat)(ho:o.op=.load t x)(ht:tfB P t b n=true)(hx:ev σ.T x=some (.ptr l off))(hl:ok σ.O l=some (.rowd e k f es))
  (hoff:off=i*k+j) (hi:es[i]?=some d) (hn:Nat.ble (j+n) k=true) (h0:Nat.ble 1 n=true) (hv:mkA b n ((lift f d).drop j |>.take n)=some v):Stp P c N o σ [l] v []:=by
 have hn:=Nat.le_of_ble_eq_true hn
 have h0:=Nat.le_of_ble_eq_true h0
 refine qaN fun σ' h1 h2 a w ρ S hc=>?_
 obtain ⟨g,hg,hx'⟩:=qgC hc (h1 x (by simp [ho,Op.operands]) _ hx)
 obtain ⟨hes,xs,how,h1x,hr⟩:=hc.O l _ (h2 l (by simp) _ hl)
 obtain ⟨cap,cur,h5,h6,h7,h8,h9,h10,h11⟩:=qfY how hg
 have hil:i<es.length:=(List.getElem?_eq_some_iff.1 hi).1
 have hle:i*k+k≤es.length*k:=by rw [← Nat.succ_mul];exact Nat.mul_le_mul_right _ hil
 have e1:(xs.drop off).take n=(((xs.drop (i*k)).take k).drop j).take n:=by
  rw [List.drop_take,List.take_take,Nat.min_eq_left (by omega),List.drop_drop,hoff]
 refine ⟨mkV b ((xs.drop off).take n),?_,?_⟩
 ·simp only [execOp,ho,hx',Instr.loadAt,Instr.sureAddr]
  have:=qcz (P:=P) ht w g off ((xs.drop off).take n) (by simp;omega) (fun j v hv=>qb8 how hg _ _ (qhu hv))
  simp [Sem.run_bind,this]
 ·rw [e1]
  exact qje hv (fun y hy=>h1x y (List.mem_of_mem_drop (List.mem_of_mem_take (List.mem_of_mem_drop (List.mem_of_mem_take hy))))) (((qee hes hr i d hi).drop j).take n)
theorem qql {α:Type}{k:Nat}:∀ (es:List (List α)) (i:Nat) (d:List α),(∀ x∈es,x.length=k)→d.length=k→i<es.length→(es.set i d).flatten=qau es.flatten (i*k) d
 | [],i,d,_,_,h=>by simp at h
 | e::es,0,d,h,hd,_=>by
   have he:e.length=k:=h e (by simp)
   simp only [List.set_cons_zero,List.flatten_cons,qau,Nat.zero_mul,List.take_zero,List.nil_append,Nat.zero_add]
   rw [List.drop_append,hd,he,Nat.sub_self,List.drop_zero,List.drop_of_length_le (by omega),List.nil_append]
 | e::es,i+1,d,h,hd,hi=>by
   have he:e.length=k:=h e (by simp)
   have ih:=qql es i d (fun x hx=>h x (by simp [hx])) hd (by simpa using hi)
   simp only [List.set_cons_succ,List.flatten_cons,ih,qau]
   have e1:(i+1)*k=e.length+i*k:=by rw [Nat.succ_mul,he];omega
   have e2:e.length+i*k+d.length=e.length+(i*k+d.length):=by omega
   rw [e1,List.take_length_add_append,e2,List.drop_length_add_append]
   simp [List.append_assoc]
theorem qlz {y:Operand}{es:List (List D)}(i:Nat)(hg:o.guard=none)(ho:o.op=.store t x y)(hd:o.dst=none)(ht:tfB P t b n=true)
  (hx:ev T x=some (.ptr l off)) (hl:ok O l=some (.rowd e k f es)) (hoff:off=i*k) (hi:i<es.length) (hy:ev T y=some v) (hv:v.cellsOf=some vs) (hvd:toDs f vs=some d) (hn:vs.length=n) (hk:n=k) (h0:Nat.ble 1 n=true)
  (K:awps P c N ops rest Q ⟨T,(l,.rowd e k f (es.set i d))::O⟩):awps P c N ops (o::rest) Q ⟨T,O⟩:=by
 refine qcF hg ?_
 rintro a w ⟨ρ,S,hc⟩
 have h0':=Nat.le_of_ble_eq_true h0
 subst hk
 subst hoff
 obtain ⟨g,hgb,hx'⟩:=qgC hc hx
 have hy':=qaz hc hy
 obtain ⟨us,hus,hu1,hur⟩:=qey hv hy'
 have hul:=hur.length
 have hvl:=qom hv hvd
 have hdl:d.length=n:=by rw [← hn,hvl];simp [lift]
 obtain ⟨hes,xs,how,h1,hr⟩:=hc.O l _ hl
 obtain ⟨cap,cur,h5,h6,h7,h8,h9,h10,h11⟩:=qfY how hgb
 have h6':w.heap[g]?=some (.cells cur.toList.toArray e (0,0)):=by simpa using h6
 have hcl:cur.toList.length=cap*n:=by simpa using h9
 have hmk:es.length*n≤cap*n:=Nat.mul_le_mul_right n h7
 have hik:i*n+n≤es.length*n:=by rw [← Nat.succ_mul];exact Nat.mul_le_mul_right _ hi
 have hf:Far (fun b=>blk (ρ l)=some b) w (w.setRow g (qau cur.toList (i*n) us).toArray):=by
  rw [h5];exact qeC w g _
 have hrun:=qdA ht w g (i*n) e (a.eval y) us cur.toList hus hu1 (by omega) h6' (by omega)
 have hex:(execOp a.eval o).run P w=.ok .skip (w.setRow g (qau cur.toList (i*n) us).toArray):=by
  simp only [execOp,ho,Instr.storeAt,hx',Instr.sureAddr]
  simp [Sem.run_bind,hrun]
 have hrU:∀ vs zs,RepL w ρ S (St.U ⟨T,O⟩) vs zs→RepL (w.setRow g (qau cur.toList (i*n) us).toArray) ρ S (St.U ⟨T,(l,.rowd e n f (es.set i d))::O⟩) vs zs:=fun vs zs h=>
  h.mono (fun _ _ h=>h) (fun f b hb=>hf.block b (hc.Sb f b hb) (fun e=>hc.dS l _ b f hl trivial e hb)) qet (fun _ _=>rfl)
 have hnew:=hc.modOb hl trivial hf (ob':=.rowd e n f (es.set i d)) (by
  refine ⟨fun x hx=>?_,qau xs (i*n) us,⟨?_,.inr ⟨g,cap,(qau cur.toList (i*n) us).toArray,by rw [List.length_set];exact h5,Nat.zero_le _,setRow_heap w g _ _ e _ h6',by simpa using h7,h8,?_,?_⟩⟩,?_,?_⟩
  ·rcases List.mem_or_eq_of_mem_set hx with h|h
   ·exact hes x h
   ·rw [h];exact hdl
  ·rw [qa9 (by omega),List.length_set];exact h11
  ·simp only [List.size_toArray];rw [qa9 (by omega)];exact hcl
  ·simp only [List.length_set]
   rw [qkr (by omega) (by omega),h10]
  ·intro y hy
   simp only [qau,List.mem_append] at hy
   rcases hy with (hy|hy)|hy
   ·exact h1 y (List.mem_of_mem_take hy)
   ·exact hu1 y hy
   ·exact h1 y (List.mem_of_mem_drop hy)
  ·refine hrU _ _ ?_
   rw [qql es i d hes hdl hi]
   have e1:lift f (qau es.flatten (i*n) d)=(lift f es.flatten).take (i*n)++vs++(lift f es.flatten).drop (i*n+us.length):=by
    rw [hul,hn,hvl];simp [qau,lift,hdl]
   rw [e1,qau]
   exact ((hr.take (i*n)).append hur).append (hr.drop _))
 unfold Oper.wp
 rw [hex]
 simp only [Oper.upon_skip]
 refine ⟨_,?_,K⟩
 rw [hd];exact ⟨ρ,S,hnew⟩
theorem qio {cs cs':List AV}(hl:ok O l=some (.box cs))(h:LeL cs cs'):Sub c N ⟨T,O⟩ ⟨T,(l,.box cs')::O⟩:=by
 rintro a w ⟨ρ,S,hc⟩
 refine ⟨ρ,S,hc.modOb hl trivial (Far.refl _ _) ?_⟩
 obtain ⟨b,ty,xs,h1,h2,h3,h4⟩:=hc.O l _ hl
 exact ⟨b,ty,xs,h1,h2,h3,(h.rep h4).mono (fun _ _ h=>h) (fun _ _ _=>rfl) qet (fun _ _=>rfl)⟩
theorem qdr {x y:Code}(mid:St)(h1:awp P c N x (qmn (fun σ'=>Sub c N σ' mid) Q) σ)(h2:awp P c N y Q mid):awp P c N (.seq x y) Q σ:=
 qd (qm9 (fun e σ' h=>by
  cases e with
  | normal=>exact qbI h h2
  | _=>exact h) h1)
theorem qaC {mid:St}(h:Sub c N σ mid):qmn (fun σ'=>Sub c N σ' mid) Q .normal σ:=h
end
end Go.Proofs.YtpgceiijoedppaaGreat
namespace Go.Proofs.YtpgceiijoedppaaGreat
open Go
variable {i:Nat}
structure Pt where
 kind:Int
 t:Tm
 rel:Int
 l:List Pt
 r:List Pt
 c:List Pt
mutual
def ptD0:Pt→List D
 | ⟨k,t,rel,l,r,c⟩=>.imm (.int .i64 k)::(tmD t++[.imm (.int .i64 rel),.sl 9 (ptDs l),.sl 9 (ptDs r),.sl 9 (ptDs c)])
def ptDs:List Pt→List (List D)
 | []=>[]
 | t::ts=>ptD0 t::ptDs ts
end
def ptD (p:Pt):List D:=.imm (.int .i64 p.kind)::(tmD p.t++[.imm (.int .i64 p.rel),.sl 9 (ptDs p.l),.sl 9 (ptDs p.r),.sl 9 (ptDs p.c)])
theorem ptD0_eq (t:Pt):ptD0 t=ptD t:=by cases t;simp only [ptD0,ptD]
theorem qd1:∀ ts:List Pt,ptDs ts=ts.map ptD
 | []=>by simp only [ptDs,List.map_nil]
 | t::ts=>by simp only [ptDs,List.map_cons,ptD0_eq,qd1 ts]
theorem qaQ (ts:List Pt):(ptDs ts).length=ts.length:=by simp [qd1]
theorem qba {ts:List Pt}{t:Pt}(h:ts[i]?=some t):(ptDs ts)[i]?=some (ptD t):=by simp [qd1,h]
theorem qqV (t:Pt):(ptD t).length=9:=rfl
theorem qrV (l:List Pt):∀ d∈ptDs l,d.length=9:=fun d hd=>by
 rw [qd1] at hd;obtain ⟨t,_,rfl⟩:=List.mem_map.1 hd;rfl
abbrev ptA (f:Bool)(t:Pt):AV:=.agg (lift f (ptD t))
mutual
/-- What can be read az a pattern. -/
def Pt.wf0:Pt→Prop
 | ⟨k,t,rel,l,r,c⟩=>i64 k∧t.wf∧i64 rel∧(qbt l∧Pt.wfs l)∧(qbt r∧Pt.wfs r)∧(qbt c∧Pt.wfs c)
def Pt.wfs:List Pt→Prop
 | []=>True
 | t::ts=>t.wf0∧Pt.wfs ts
end
def Pt.wf (p:Pt):Prop:=i64 p.kind∧p.t.wf∧i64 p.rel∧(qbt p.l∧Pt.wfs p.l)∧(qbt p.r∧Pt.wfs p.r)∧(qbt p.c∧Pt.wfs p.c)
theorem Pt.wf0_iff (t:Pt):t.wf0↔t.wf:=by cases t;simp only [Pt.wf0,Pt.wf]
theorem Pt.wfs_iff:∀ {ts:List Pt},Pt.wfs ts↔∀ t∈ts,t.wf
 | []=>by simp [Pt.wfs]
 | t::ts=>by
   rw [Pt.wfs,Pt.wf0_iff,Pt.wfs_iff]
   simp
structure Mt where
 b:List Bd
 fr:Int
 to:Int
 u:List Int
def Mt.wf (m:Mt):Prop:=(qbt m.b∧∀ b∈m.b,b.wf)∧(i64 m.fr∧i64 m.to)∧(qbt m.u∧∀ n∈m.u,i64 n)
def mtD (m:Mt):List D:=[.sl 5 (bdDs m.b),.imm (.int .i64 m.fr),.imm (.int .i64 m.to),.sl 1 (inDs m.u)]
def mtDs (l:List Mt):List (List D):=l.map mtD
theorem qah (l:List Mt):(mtDs l).length=l.length:=by simp [mtDs]
theorem qbR {l:List Mt}{b:Mt}(h:l[i]?=some b):(mtDs l)[i]?=some (mtD b):=by simp [mtDs,h]
theorem qr8 (l:List Mt)(m:Mt):mtDs (l++[m])=mtDs l++[mtD m]:=by simp [mtDs]
theorem qiI (l:List Mt):∀ d∈mtDs l,d.length=4:=fun d hd=>by
 obtain ⟨t,_,rfl⟩:=List.mem_map.1 hd;rfl
abbrev mtA (m:Mt):AV:=.agg (lift false (mtD m))
structure Rl where
 head:Tm
 body:Pt
 g:List Gd
 within:Int
 policy:Int
def Rl.wf (r:Rl):Prop:=r.head.wf∧r.body.wf∧(qbt r.g∧∀ g∈r.g,g.wf)∧i64 r.within∧i64 r.policy
structure qhQ where
 L:List Kp
 X:List Pt
 N:Int
 M:List Mt
def qhQ.wf (p:qhQ):Prop:=(qbt p.L∧∀ k∈p.L,k.wf)∧(qbt p.X∧Pt.wfs p.X)∧i64 p.N∧(qbt p.M∧∀ m∈p.M,m.wf)
def a13D (p:qhQ):List D:=[.sl 7 (kpDs p.L),.sl 9 (ptDs p.X),.imm (.int .i64 p.N),.sl 4 (mtDs p.M)]
structure Ask14 where
 M:qhQ
 K:List Tm
 R:List Rl
 G:List Int
def Ask14.wf (p:Ask14):Prop:=p.M.wf∧(qbt p.K∧Tm.wfs p.K)∧(qbt p.R∧∀ r∈p.R,r.wf)∧(qbt p.G∧∀ n∈p.G,i64 n)
end Go.Proofs.YtpgceiijoedppaaGreat
namespace Go.Proofs.YtpgceiijoedppaaGreat
open Go Go.Sort Go.Lib
theorem far_grow {w w':World}(h:Far0 (fun _=>False) w w')(hd:w.drawn≤w'.drawn):∃ q os',w'=grow (w.drewN q) os':=by
 refine ⟨w'.drawn-w.drawn,w'.heap.extract w.heap.size w'.heap.size,?_⟩
 have hh:w'.heap=w.heap++w'.heap.extract w.heap.size w'.heap.size:=by
  apply Array.ext_getElem?
  intro i
  by_cases hi:i<w.heap.size
  ·rw [Array.getElem?_append_left hi];exact h.block i hi (fun h=>h)
  ·have h1:=h.size
   rw [Array.getElem?_append_right (by omega)]
   simp only [Array.getElem?_extract]
   by_cases h2:i<w'.heap.size
   ·rw [if_pos (by omega),show w.heap.size+(i-w.heap.size)=i by omega]
   ·rw [if_neg (by omega),Array.getElem?_eq_none (by omega)]
 have e:w.drawn+(w'.drawn-w.drawn)=w'.drawn:=by omega
 cases w;cases w'
 simp only [grow,World.drewN] at*
 obtain ⟨h1,h2,h3,_,_⟩:=h
 simp only at h1 h2 h3 hh e
 subst h1;subst h2;subst h3
 rw [e]
 exact congrArg (fun hp=>World.mk hp _ _ _ _) hh
theorem pf_call {P:Program}{g:FuncId}{args:List AV}{u:Value}(h:ACx true P g args [] (fun r O=>r=.imm u∧O=[])){w:World}{xs:List Value}{ρ:Nat→Value}{S:Nat→Prop}{U:Nat→Prop}
  (hargs:RepL w ρ (fun f b=>f=false∧S b) U args xs) (hall:AV.allLs (fun _=>false) args=true) (hS:∀ b,S b→b<w.heap.size):
  Calls P g xs.toArray w fun e w'=>e=.returned u∧∃ q os',w'=grow (w.drewN q) os':=by
 let cc:Ctx:=⟨w,fun _=>False,S,ρ,fun l=>inD [] l=true,fun _=>False,True,fun _=>False⟩
 have hall2:RepL w ρ (fun f b=>f=false∧S b) (St.U ⟨argT 0 args,[]⟩) args xs:=
  RepL.gen (p:=fun _=>false) (q:=fun _=>true) (fun _ _ _ h=>h) (fun _ _ _ _=>rfl) (fun _ h=>by cases h) _ _ hall (qc9 _) hargs
 have hent:Conc cc args.length ⟨argT 0 args,[]⟩ ⟨xs.toArray,[]⟩ w ρ (fun f b=>f=false∧S b):=by
  refine ⟨by have:=hall2.length;simpa using this,rfl,fun t v ht=>?_,fun l ob' hl=>by simp [ok] at hl,fun l l' ob ob' b h1=>by simp [ok] at h1,fun l ob b f h1=>by simp [ok] at h1,fun l ob b h1=>by simp [ok] at h1,fun l ob b h1=>by simp [ok] at h1,fun b h=>(by cases h.1.1),fun f b h=>hS b h.2,fun b h=>(by cases h.1),fun b h=>.inl h.2,fun l hl=>by simp [cc,inD,ok] at hl,Fm.start (c:=cc) (fun _ h=>h.elim) (fun _ h=>h.elim) (fun b h=>(by cases h.1))⟩
  obtain ⟨j,h1,y,hy,hv⟩:=qmM 0 hall2 t v ht
  have:xs.toArray.getD t undef=y:=by
   rw [Array.getD_eq_getD_getElem?]
   simp only [List.getElem?_toArray]
   rw [h1,Nat.zero_add,hy];rfl
  simp only
  rw [this];exact hv
 refine (h cc w xs ρ _ E (fun l=>Iff.rfl) ⟨fun b h=>(by cases h.1),fun b h=>h⟩ ⟨⟨fun _=>rfl⟩⟩ hent).mono ?_
 rintro e w' ⟨y,r,O',rfl,⟨rfl,rfl⟩,ρ',S',hc⟩
 have hy:=hc.T 0 (.imm u) E
 simp only [Rep] at hy
 have hy2:y=u:=hy
 exact ⟨by rw [hy2],far_grow hc.fm.toFar0 (hc.fm.dr trivial)⟩
end Go.Proofs.YtpgceiijoedppaaGreat