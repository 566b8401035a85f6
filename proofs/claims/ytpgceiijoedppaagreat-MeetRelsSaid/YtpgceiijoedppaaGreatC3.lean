/- Part 3 of the proof: SymG, SymH, SymI. -/
import Derived.Test.YtpgceiijoedppaaGreatC2
import Derived.WideLaws
set_option linter.unusedVariables false
set_option linter.unusedSimpArgs false
namespace Go.Proofs.YtpgceiijoedppaaGreat
open Go
variable {a b i:Int}{e t t':TypeId}{es:List (List D)}{f:Bool}{k:Nat}{op:BinOp}{q:IntKind}{r:Value}{s:ByteArray}{ts:Array TypeId}{x y:Operand}
section
variable {P:Program}{c:Ctx}{N:Nat}{Q:Exit→St→Prop}{σ:St}{o:Oper}
def binI (op:BinOp)(k:IntKind)(a b:Int):Option Value:=
 match op with
 | .add=>some (.int k (k.wrap (a+b)))
 | .sub=>some (.int k (k.wrap (a-b)))
 | .mul=>some (.int k (k.wrap (a*b)))
 | .quo=>if b=0 then none else some (.int k (k.wrap (a.tdiv b)))
 | .rem=>if b=0 then none else some (.int k (a.tmod b))
 | .eql=>some (.bool (a==b))
 | .neq=>some (.bool (a != b))
 | .lss=>some (.bool (decide (a<b)))
 | .leq=>some (.bool (decide (a≤b)))
 | .gtr=>some (.bool (decide (a>b)))
 | .geq=>some (.bool (decide (a≥b)))
 | _=>none
theorem qj {k:IntKind}(ho:o.op=.binOp op t x y t')(hx:ev σ.T x=some (.imm (.int k a)))(hy:ev σ.T y=some (.imm (.int k b)))(hr:binI op k a b=some r):Stp P c N o σ [] (.imm r) []:=by
 refine qaN fun σ' h1 _ s w ρ S hc=>⟨r,?_,by simp [Rep]⟩
 have hx':=qaz hc (h1 x (by simp [ho,Op.operands]) _ hx)
 have hy':=qaz hc (h1 y (by simp [ho,Op.operands]) _ hy)
 simp only [Rep] at hx' hy'
 simp only [execOp,ho,hx',hy']
 cases op<;>simp only [binI,Option.some.injEq,reduceCtorEq] at hr<;>first
  | exact hr.elim
  | (subst hr;simp [Sem.run_bind,eqGuard,binOp,Op.intArith,Op.intCmp];done)
  | (split at hr<;>simp only [Option.some.injEq,reduceCtorEq] at hr;rename_i h0;subst hr;simp [Sem.run_bind,eqGuard,binOp,Op.intDiv,h0])
theorem qmi {n:Int}(h:-9223372036854775808≤n∧n≤9223372036854775807):IntKind.i64.wrap n=n:=by
 simp only [IntKind.wrap,IntKind.signed,IntKind.bits]
 by_cases h0:0≤n
 ·have:n % (2 ^ 64:Int)=n:=Int.emod_eq_of_lt h0 (by omega)
  simp only [this]
  split
  ·rename_i h1;simp at h1;omega
  ·rfl
 ·have:n % (2 ^ 64:Int)=n+2 ^ 64:=by
   rw [← Int.add_emod_right]
   exact Int.emod_eq_of_lt zO zO
  simp only [this]
  split
  ·omega
  ·rename_i h1;simp at h1;omega
theorem qO (ho:o.op=.binOp .add t x y t')(hx:ev σ.T x=some (.imm (.int .i64 a)))(hy:ev σ.T y=some (.imm (.int .i64 b)))(hb:-9223372036854775808≤a+b∧a+b≤9223372036854775807):Stp P c N o σ [] (.imm (.int .i64 (a+b))) []:=
 qj ho hx hy (by simp only [binI,qmi hb])
theorem qa3 (ho:o.op=.binOp .sub t x y t')(hx:ev σ.T x=some (.imm (.int .i64 a)))(hy:ev σ.T y=some (.imm (.int .i64 b)))(hb:-9223372036854775808≤a-b∧a-b≤9223372036854775807):Stp P c N o σ [] (.imm (.int .i64 (a-b))) []:=
 qj ho hx hy (by simp only [binI,qmi hb])
theorem qrH (ho:o.op=.binOp .mul t x y t')(hx:ev σ.T x=some (.imm (.int .i64 a)))(hy:ev σ.T y=some (.imm (.int .i64 b)))(hb:-9223372036854775808≤a*b∧a*b≤9223372036854775807):Stp P c N o σ [] (.imm (.int .i64 (a*b))) []:=
 qj ho hx hy (by simp only [binI,qmi hb])
def binS (op:BinOp)(a b:ByteArray):Option Value:=
 match op with
 | .add=>if a.size+b.size≤9223372036854775807 then some (.string (a++b)) else none
 | .eql=>some (.bool (a.toList==b.toList))
 | .neq=>some (.bool !(a.toList==b.toList))
 | .lss=>some (.bool (Op.bytesLess a.toList b.toList))
 | .leq=>some (.bool (Op.bytesLess a.toList b.toList || a.toList==b.toList))
 | .gtr=>some (.bool !(Op.bytesLess a.toList b.toList || a.toList==b.toList))
 | .geq=>some (.bool !(Op.bytesLess a.toList b.toList))
 | _=>none
theorem qcH {a b:ByteArray}(ho:o.op=.binOp op t x y t')(hx:ev σ.T x=some (.imm (.string a)))(hy:ev σ.T y=some (.imm (.string b)))(hr:binS op a b=some r):Stp P c N o σ [] (.imm r) []:=by
 refine qaN fun σ' h1 _ s w ρ S hc=>⟨r,?_,by simp [Rep]⟩
 have hx':=qaz hc (h1 x (by simp [ho,Op.operands]) _ hx)
 have hy':=qaz hc (h1 y (by simp [ho,Op.operands]) _ hy)
 simp only [Rep] at hx' hy'
 simp only [execOp,ho,hx',hy']
 cases op<;>simp only [binS,Option.some.injEq,reduceCtorEq] at hr<;>first
  | exact hr.elim
  | (subst hr;simp [Sem.run_bind,eqGuard,binOp,Op.stringOp];done)
  | (split at hr<;>simp only [Option.some.injEq,reduceCtorEq] at hr;rename_i h0;subst hr;simp [Sem.run_bind,eqGuard,binOp,run_string_add_sum,h0])
theorem qrG {a b:Bool}(ho:o.op=.binOp .neq t x y t')(ht:P.underlying t=some .bool)(hx:ev σ.T x=some (.imm (.bool a)))(hy:ev σ.T y=some (.imm (.bool b))):Stp P c N o σ [] (.imm (.bool (!(a==b)))) []:=by
 refine qaN fun σ' h1 _ s w ρ S hc=>⟨_,?_,by simp only [Rep];rfl⟩
 have hx':=qaz hc (h1 x (by simp [ho,Op.operands]) _ hx)
 have hy':=qaz hc (h1 y (by simp [ho,Op.operands]) _ hy)
 simp only [Rep] at hx' hy'
 simp only [execOp,ho,hx',hy']
 simp [Sem.run_bind,eqGuard,run_neq_bool w t a b ht]
theorem qaB {b:Bool}(ho:o.op=.unOp .not t x)(hx:ev σ.T x=some (.imm (.bool b))):Stp P c N o σ [] (.imm (.bool !b)) []:=by
 refine qaN fun σ' h1 _ s w ρ S hc=>⟨_,?_,by simp only [Rep];rfl⟩
 have hx':=qaz hc (h1 x (by simp [ho,Op.operands]) _ hx)
 simp only [Rep] at hx'
 simp only [execOp,ho,hx']
 simp [Sem.run_bind,Op.unary]
theorem qec {s d:TypeId}{k:IntKind}(ho:o.op=.convert s d x)(hs:(P.underlying s).isSome=true)(hd:P.underlying d=some (.int k))(hx:ev σ.T x=some (.imm (.int q a))):Stp P c N o σ [] (.imm (.int k (k.wrap a))) []:=by
 refine qaN fun σ' h1 _ st w ρ S hc=>⟨_,?_,by simp only [Rep];rfl⟩
 have hx':=qaz hc (h1 x (by simp [ho,Op.operands]) _ hx)
 simp only [Rep] at hx'
 obtain ⟨ds,hds⟩:=Option.isSome_iff_exists.1 hs
 simp only [execOp,ho,hx',convert]
 simp [Sem.run_bind,run_underlying hds w,run_underlying hd w,Conv.intToInt]
theorem qdc (ho:o.op=.call { callee:=.builtin .len,args:=#[x],argTypes:=#[t] })(ht:P.underlying t=some .string)(hx:ev σ.T x=some (.imm (.string s))):Stp P c N o σ [] (.imm (.int .i64 s.size)) []:=by
 refine qaN fun σ' h1 _ st w ρ S hc=>⟨_,?_,by simp only [Rep];rfl⟩
 have hx':=qaz hc (h1 x (by simp [ho,Op.operands,Call.operands]) _ hx)
 simp only [Rep] at hx'
 simp only [execOp,ho,resolve]
 simp [Sem.run_bind,invoke,builtin,hx',Builtin.len_,run_underlying ht w,goInt]
theorem qu (ho:o.op=.call { callee:=.builtin .len,args:=#[x],argTypes:=#[t] })(ht:slB P t e k=true)(hx:ev σ.T x=some (.dat f k es)):Stp P c N o σ [] (.imm (.int .i64 es.length)) []:=by
 refine qaN fun σ' h1 _ st w ρ S hc=>⟨_,?_,by simp only [Rep];rfl⟩
 have hx':=qaz hc (h1 x (by simp [ho,Op.operands,Call.operands]) _ hx)
 simp only [Rep,RepD] at hx'
 obtain ⟨A,n,cc,hxe,rfl,_⟩:=hx'
 obtain ⟨i,h2,_⟩:=qcL ht
 simp only [execOp,ho,resolve]
 simp [Sem.run_bind,invoke,builtin,hxe,Builtin.len_,run_underlying h2 w,goInt]
theorem qcB (ho:o.op=.call { callee:=.builtin .len,args:=#[x],argTypes:=#[t] })(ht:slB P t e k=true)(hx:ev σ.T x=some (.imm (.slice none 0 0))):Stp P c N o σ [] (.imm (.int .i64 0)) []:=by
 refine qaN fun σ' h1 _ st w ρ S hc=>⟨_,?_,by simp only [Rep];rfl⟩
 have hx':=qaz hc (h1 x (by simp [ho,Op.operands,Call.operands]) _ hx)
 simp only [Rep] at hx'
 obtain ⟨i,h2,_⟩:=qcL ht
 simp only [execOp,ho,resolve]
 simp [Sem.run_bind,invoke,builtin,hx',Builtin.len_,run_underlying h2 w,goInt]
theorem qbf {l:Nat}(ho:o.op=.call { callee:=.builtin .len,args:=#[x],argTypes:=#[t] })(ht:slB P t e k=true)(hx:ev σ.T x=some (.row l))(hl:ok σ.O l=some (.rowd e k f es)):Stp P c N o σ [l] (.imm (.int .i64 es.length)) []:=by
 refine qaN fun σ' h1 h2 st w ρ S hc=>⟨_,?_,by simp only [Rep];rfl⟩
 have hx':=qaz hc (h1 x (by simp [ho,Op.operands,Call.operands]) _ hx)
 simp only [Rep] at hx'
 obtain ⟨_,xs,how,_⟩:=hc.O l _ (h2 l (by simp) _ hl)
 obtain ⟨i,h3,_⟩:=qcL ht
 have hv:∃ A cc,ρ l=.slice A es.length cc:=by
  rcases how.2 with ⟨h,h'⟩|⟨g,cap,cur,h,_⟩
  ·exact ⟨none,0,by rw [h,h']⟩
  ·exact ⟨_,_,h⟩
 obtain ⟨A,cc,hv⟩:=hv
 rw [hv] at hx'
 simp only [execOp,ho,resolve]
 simp [Sem.run_bind,invoke,builtin,hx'.2.1,Builtin.len_,run_underlying h3 w,goInt]
def qdm (s:ByteArray)(i:Int):Int:=((s.data.toList.getD i.toNat 0).toNat:Int)
theorem qeb (ho:o.op=.index t x y)(ht:P.underlying t=some .string)(hx:ev σ.T x=some (.imm (.string s)))(hy:ev σ.T y=some (.imm (.int q i)))(h0:0≤i)(h1:i<s.size):Stp P c N o σ [] (.imm (.int .u8 (qdm s i))) []:=by
 refine qaN fun σ' h2 _ st w ρ S hc=>⟨_,?_,by simp only [Rep];rfl⟩
 have hx':=qaz hc (h2 x (by simp [ho,Op.operands]) _ hx)
 have hy':=qaz hc (h2 y (by simp [ho,Op.operands]) _ hy)
 simp only [Rep] at hx' hy'
 have hlt:i.toNat<s.size:=by omega
 have hg:s[i.toNat]?=some (s[i.toNat]'hlt):=by simp [hlt]
 have hb:((s[i.toNat]'hlt).toNat:Int)=qdm s i:=by
  unfold qdm
  congr 1
  have h3:i.toNat<s.data.size:=hlt
  rw [List.getD_eq_getElem?_getD,List.getElem?_eq_getElem (by simpa using h3),Option.getD_some]
  rfl
 simp only [execOp,ho,hx',hy',Instr.index]
 simp [Sem.run_bind,asIntOf,run_underlying ht w,h0,hlt,hb]
theorem qrI (ho:o.op=.call { callee:=.builtin .max,args:=#[x,y],argTypes:=ts })(hx:ev σ.T x=some (.imm (.int .i64 a)))(hy:ev σ.T y=some (.imm (.int .i64 b))):Stp P c N o σ [] (.imm (.int .i64 (if b>a then b else a))) []:=by
 refine qaN fun σ' h1 _ st w ρ S hc=>⟨_,?_,by simp only [Rep];rfl⟩
 have hx':=qaz hc (h1 x (by simp [ho,Op.operands,Call.operands]) _ hx)
 have hy':=qaz hc (h1 y (by simp [ho,Op.operands,Call.operands]) _ hy)
 simp only [Rep] at hx' hy'
 simp only [execOp,ho,resolve]
 simp [Sem.run_bind,invoke,builtin,hx',hy',run_max_int2]
theorem qi9 (ho:o.op=.call { callee:=.builtin .min,args:=#[x,y],argTypes:=ts })(hx:ev σ.T x=some (.imm (.int .i64 a)))(hy:ev σ.T y=some (.imm (.int .i64 b))):Stp P c N o σ [] (.imm (.int .i64 (if b<a then b else a))) []:=by
 refine qaN fun σ' h1 _ st w ρ S hc=>⟨_,?_,by simp only [Rep];rfl⟩
 have hx':=qaz hc (h1 x (by simp [ho,Op.operands,Call.operands]) _ hx)
 have hy':=qaz hc (h1 y (by simp [ho,Op.operands,Call.operands]) _ hy)
 simp only [Rep] at hx' hy'
 simp only [execOp,ho,resolve]
 simp [Sem.run_bind,invoke,builtin,hx',hy',run_min_int2]
theorem qlS {w:World}{F:Bool}{S:Nat→Prop}{b k:Nat}:∀ (i:Nat) {off:Nat} {es:List (List D)},qcK w F S b k off es→qcK w F S b k (off+i*k) (es.drop i)
 | 0,off,es,h=>by simpa using h
 | i+1,off,[],h=>by simp [qcK]
 | i+1,off,e::es,h=>by
   simp only [qcK] at h
   have:=qlS i h.2
   rw [show off+(i+1)*k=off+k+i*k from by rw [Nat.add_mul];omega]
   simpa using this
theorem qlR {w:World}{F:Bool}{S:Nat→Prop}{b k:Nat}:∀ (i:Nat) {off:Nat} {es:List (List D)},qcK w F S b k off es→qcK w F S b k off (es.take i)
 | 0,off,es,h=>by simp [qcK]
 | i+1,off,[],h=>by simp [qcK]
 | i+1,off,e::es,h=>by
   simp only [qcK] at h
   simp only [List.take_succ_cons,qcK]
   exact ⟨h.1,qlR i h.2⟩
theorem qb7 {lo hi:Option Operand}{j:Int}(ho:o.op=.slice t x lo hi none)(ht:slB P t e k=true)(hx:ev σ.T x=some (.dat f k es))
    (hlo:∀ y,lo=some y→ev σ.T y=some (.imm (.int .i64 i))) (hlo':lo=none→i=0) (hhi:∀ y,hi=some y→ev σ.T y=some (.imm (.int .i64 j))) (hhi':hi=none→j=es.length) (h0:0≤i) (h1:i≤j) (h2:j≤es.length):Stp P c N o σ [] (.dat f k ((es.take j.toNat).drop i.toNat)) []:=by
  refine qaN fun σ' h3 _ st w ρ S hc=>?_
  have hx':=qaz hc (h3 x (by simp [ho,Op.operands]) _ hx)
  simp only [Rep,RepD] at hx'
  obtain ⟨A,n,cap,hxe,rfl,hcap,hmax,hr⟩:=hx'
  have hbl:∀ (y:Operand),lo=some y→st.eval y=.int .i64 i:=fun y hy=>by
    have:=qaz hc (h3 y (by simp [ho,Op.operands,hy]) _ (hlo y hy))
    simpa [Rep] using this
  have hbh:∀ (y:Operand),hi=some y→st.eval y=.int .i64 j:=fun y hy=>by
    have:=qaz hc (h3 y (by simp [ho,Op.operands,hy]) _ (hhi y hy))
    simpa [Rep] using this
  obtain ⟨it,h4,h5,h6⟩:=qcL ht
  have hb:∀ (y:Nat) (n:Int) (code:BoundsCode) (w:World),0≤n→n≤y→(Instr.sliceBound (.int .i64 n) y code).run P w=.ok n.toNat w:=fun y n code w h h'=>run_sliceBound (P:=P) w .i64 n y code h h'
  have hbnd:(Instr.sliceBounds true es.length cap (lo.map st.eval) (hi.map st.eval) none).run P w=.ok (i.toNat,j.toNat,cap) w:=by
    cases lo with
    | none=>
      have hi0:=hlo' E
      subst hi0
      cases hi with
      | none=>have:=hhi' rfl;subst this;simp [Instr.sliceBounds]
      | some y=>simp [Instr.sliceBounds,Sem.run_bind,hbh y E,hb cap j _ w (by omega) (by omega)]
    | some z=>
      cases hi with
      | none=>have:=hhi' rfl;subst this;simp [Instr.sliceBounds,Sem.run_bind,hbl z rfl,hb es.length i _ w h0 h1]
      | some y=>simp [Instr.sliceBounds,Sem.run_bind,hbh y E,hbl z E,hb cap j _ w (by omega) (by omega),hb j.toNat i _ w h0 (by omega)]
  refine ⟨.slice (if cap=i.toNat then A else A.map (·.add (i.toNat*k))) (j.toNat-i.toNat) (cap-i.toNat),?_,?_⟩
  · simp only [execOp,ho,hxe,Instr.sliceAt,Option.map_none]
    simp [Sem.run_bind,run_underlying h4 w,Instr.slice,hbnd,sizeOf,run_typeInfo w h5,h6]
  · simp only [Rep,RepD]
    refine ⟨_,_,_,rfl,by simp;omega,by omega,by omega,?_⟩
    by_cases hz:j.toNat-i.toNat=0
    · exact .inl hz
    · rcases hr with hr|⟨b,off,rfl,hS,hal,hr⟩
      · omega
      · right
        rw [if_neg (by omega)]
        refine ⟨b,off+i.toNat*k,by simp [qcq],hS,fun hf=>⟨by rw [Nat.add_mul_mod_self_right];exact (hal hf).1,(hal hf).2⟩,?_⟩
        exact qlS i.toNat (qlR j.toNat hr)
end
end Go.Proofs.YtpgceiijoedppaaGreat
namespace Go.Proofs.YtpgceiijoedppaaGreat
open Go
variable {N:Nat}{S:Bool→Nat→Prop}{U':Nat→Prop}{a:Act}{c:Ctx}{f:FuncId}{fn:Func}{p:Nat→Bool}{w:World}{x:Code}{ρ:Nat→Value}
mutual
def AV.allQ (q:Bool→Bool):AV→Bool
 | .any=>true
 | .imm _=>true
 | .dat f _ _=>q f
 | .agg cs=>AV.allQs q cs
 | .ptr _ _=>true
 | .elp f _=>q f
 | .row _=>true
 | .fn _ cs=>AV.allQs q cs
 | .map _=>true
 | .tup cs=>AV.allQs q cs
 | .vw _ _ _ _=>true
def AV.allQs (q:Bool→Bool):List AV→Bool
 | []=>true
 | v::vs=>AV.allQ q v&&AV.allQs q vs
end
def Ob.allQ (q:Bool→Bool):Ob→Bool
 | .box cs=>AV.allQs q cs
 | .row _ _ cs=>AV.allQs q cs
 | .rowd _ _ f _=>q f
 | .mp _ _ _=>true
 | .dead=>true
 | .arr _ _ f _=>q f
 | .mx _ _ _ _ _=>q false
mutual
theorem Rep.gen {w w':World}{ρ ρ':Nat→Value}{S S':Bool→Nat→Prop}{U U':Nat→Prop}{p:Nat→Bool}{q:Bool→Bool}(hS:∀ f b,q f=true→S f b→S' f b)(hw:∀ f b,q f=true→S f b→w'.heap[b]?=w.heap[b]?)
   (hp:∀ l,p l=true→U l→U' l∧ρ' l=ρ l):∀ (v:AV) (x:Value),v.allL p=true→v.allQ q=true→Rep w ρ S U v x→Rep w' ρ' S' U' v x
 | .any,x,_,_,_=>by simp [Rep]
 | .imm v,x,_,_,h=>by simpa [Rep] using h
 | .dat f k es,x,_,hq,h=>by
   simp only [Rep] at h ⊢
   simp only [AV.allQ] at hq
   exact RepD.mono id (fun b=>hS f b hq) (fun b=>hw f b hq) _ _ h
 | .agg cs,x,ha,hq,h=>by
   simp only [Rep] at h ⊢
   simp only [AV.allL] at ha
   simp only [AV.allQ] at hq
   obtain ⟨xs,hx,h1,h⟩:=h
   exact ⟨xs,hx,h1,RepL.gen hS hw hp cs xs ha hq h⟩
 | .ptr l off,x,ha,_,h=>by
   simp only [Rep] at h ⊢
   simp only [AV.allL] at ha
   obtain ⟨hl,b,hb,hx⟩:=h
   exact ⟨(hp l ha hl).1,b,by rw [(hp l ha hl).2];exact hb,hx⟩
 | .elp f cs,x,_,hq,h=>by
   simp only [Rep] at h ⊢
   simp only [AV.allQ] at hq
   obtain ⟨b,off,hx,hb,h⟩:=h
   exact ⟨b,off,hx,hS f b hq hb,qbX.mono id (fun b=>hS f b hq) (fun b=>hw f b hq) b hb off cs h⟩
 | .row l,x,ha,_,h=>by
   simp only [Rep] at h ⊢
   simp only [AV.allL] at ha
   exact ⟨(hp l ha h.1).1,by rw [(hp l ha h.1).2];exact h.2.1,h.2.2⟩
 | .fn f caps,x,ha,hq,h=>by
   simp only [Rep] at h ⊢
   simp only [AV.allL] at ha
   simp only [AV.allQ] at hq
   obtain ⟨xs,hx,h⟩:=h
   exact ⟨xs,hx,RepL.gen hS hw hp caps xs ha hq h⟩
 | .map l,x,ha,_,h=>by
   simp only [Rep] at h ⊢
   simp only [AV.allL] at ha
   exact ⟨(hp l ha h.1).1,by rw [(hp l ha h.1).2];exact h.2.1,h.2.2⟩
 | .tup vs,x,ha,hq,h=>by
   simp only [Rep] at h ⊢
   simp only [AV.allL] at ha
   simp only [AV.allQ] at hq
   obtain ⟨xs,hx,h⟩:=h
   exact ⟨xs,hx,RepL.gen hS hw hp vs xs ha hq h⟩
 | .vw l off n c,x,ha,_,h=>by
   simp only [Rep] at h ⊢
   simp only [AV.allL] at ha
   obtain ⟨hl,b,hb,hx⟩:=h
   exact ⟨(hp l ha hl).1,b,by rw [(hp l ha hl).2];exact hb,hx⟩
theorem RepL.gen {w w':World}{ρ ρ':Nat→Value}{S S':Bool→Nat→Prop}{U U':Nat→Prop}{p:Nat→Bool}{q:Bool→Bool}(hS:∀ f b,q f=true→S f b→S' f b)(hw:∀ f b,q f=true→S f b→w'.heap[b]?=w.heap[b]?)
   (hp:∀ l,p l=true→U l→U' l∧ρ' l=ρ l):∀ (vs:List AV) (xs:List Value),AV.allLs p vs=true→AV.allQs q vs=true→RepL w ρ S U vs xs→RepL w' ρ' S' U' vs xs
 | [],xs,_,_,h=>by simpa [RepL] using h
 | v::vs,xs,ha,hq,h=>by
   simp only [RepL] at h ⊢
   simp only [AV.allLs,Bool.and_eq_true] at ha
   simp only [AV.allQs,Bool.and_eq_true] at hq
   obtain ⟨y,ys,hx,h1,h2⟩:=h
   exact ⟨y,ys,hx,Rep.gen hS hw hp v y ha.1 hq.1 h1,RepL.gen hS hw hp vs ys ha.2 hq.2 h2⟩
end
theorem qfg (q:Bool→Bool)(f:Bool)(hq:q f=true):∀ ds:List D,AV.allQs q (lift f ds)=true
 | []=>rfl
 | d::ds=>by
   simp only [lift,List.map_cons,AV.allQs,Bool.and_eq_true]
   exact ⟨by cases d<;>simp [D.av,AV.allQ,hq],qfg q f hq ds⟩
theorem ObOk.gen {w':World}{ρ':Nat→Value}{S':Bool→Nat→Prop}{U:Nat→Prop}{l:Nat}{q:Bool→Bool}(hS:∀ f b,q f=true→S f b→S' f b)(hw:∀ f b,q f=true→S f b→w'.heap[b]?=w.heap[b]?)
   (hp:∀ l,p l=true→U l→U' l∧ρ' l=ρ l) (hl:ρ' l=ρ l) {o:Ob} (ha:o.allL p=true) (hq:o.allQ q=true) (hb:∀ b,blk (ρ l)=some b→w'.heap[b]?=w.heap[b]?) (h:ObOk w ρ S U l o):ObOk w' ρ' S' U' l o:=by
 cases o with
 | box cs=>
   obtain ⟨b,ty,xs,h1,h2,h3,h4⟩:=h
   exact ⟨b,ty,xs,by rw [hl,h1],by rw [hb b (by simp [h1,blk]),h2],h3,RepL.gen hS hw hp _ _ ha hq h4⟩
 | row e k cs=>
   obtain ⟨n,xs,h1,h2,h3⟩:=h
   exact ⟨n,xs,by rw [hl];exact qcl h1 hb,h2,RepL.gen hS hw hp _ _ ha hq h3⟩
 | rowd e k f es=>
   obtain ⟨h0,xs,h1,h2,h3⟩:=h
   exact ⟨h0,xs,by rw [hl];exact qcl h1 hb,h2,RepL.gen hS hw hp _ _ (qbU p f _) (qfg q f hq _) h3⟩
 | mp P k ks=>
   obtain ⟨r,h1,h2⟩:=h
   exact ⟨r,by rw [hl,h1],h2.of_block (hb r (by simp [h1,blk]))⟩
 | dead=>trivial
 | arr e k f es=>
   obtain ⟨b,xs,h1,h2,h3,h4,h5⟩:=h
   exact ⟨b,xs,by rw [hl,h1],by rw [hb b (by simp [h1,blk]),h2],h3,h4,fun i d hd=>⟨(h5 i d hd).1,RepL.gen hS hw hp _ _ (qbU p f _) (qfg q f hq _) (h5 i d hd).2.1,(h5 i d hd).2.2⟩⟩
 | mx it P k kvs cur=>
   simp only [ObOk] at h ⊢
   rw [hl]
   exact h.mono (fun b=>hS false b hq) (fun b=>hw false b hq) hb
mutual
/-- B: fresh data and rows are shown az data; else they are not shown. -/
def AV.cv (B:Bool)(O:List (Nat×Ob))(p:Nat→Bool):AV→AV
 | .any=>.any
 | .imm v=>.imm v
 | .dat f k es=>if f&&!B then .any else .dat false k es
 | .agg cs=>.agg (AV.cvs B O p cs)
 | .ptr l off=>if p l then .ptr l off else .any
 | .elp f ds=>if f&&!B then .any else .elp false ds
 | .row l=>if p l then .row l else match ok O l with
   | some (.rowd _ k _ es)=>if B&&!(k==0) then .dat false k es else .any
   | _=>.any
 | .fn f cs=>.fn f (AV.cvs B O p cs)
 | .map l=>if p l then .map l else .any
 | .tup cs=>.tup (AV.cvs B O p cs)
 | .vw l off n c=>if p l then .vw l off n c else .any
def AV.cvs (B:Bool)(O:List (Nat×Ob))(p:Nat→Bool):List AV→List AV
 | []=>[]
 | v::vs=>AV.cv B O p v::AV.cvs B O p vs
end
def Ob.cv (B:Bool)(O:List (Nat×Ob))(p:Nat→Bool):Ob→Ob
 | .box cs=>.box (AV.cvs B O p cs)
 | .row e k cs=>.row e k (AV.cvs B O p cs)
 | .rowd e k f es=>if f&&!B then .dead else .rowd e k false es
 | .mp P k ks=>.mp P k ks
 | .dead=>.dead
 | .arr e k f es=>if f&&!B then .dead else .arr e k false es
 | .mx it P k kvs cur=>.mx it P k kvs cur
theorem qm5 {B f:Bool}{O:List (Nat×Ob)}{p:Nat→Bool}(h:(f&&!B)=false):∀ ds:List D,AV.cvs B O p (lift f ds)=lift false ds
 | []=>rfl
 | d::ds=>by
   simp only [lift,List.map_cons,AV.cvs]
   have:=qm5 (B:=B) (f:=f) (O:=O) (p:=p) h ds
   simp only [lift] at this
   rw [this]
   congr 1
   cases d<;>simp [D.av,AV.cv,h]
def seen (B:Bool)(O:List (Nat×Ob))(p:Nat→Bool)(ρ:Nat→Value)(S:Bool→Nat→Prop)(b:Nat):Prop:=
 S false b∨(B=true∧(S true b∨∃ l e k f es,ok O l=some (.rowd e k f es)∧p l=false∧blk (ρ l)=some b))
def qoQ (B:Bool)(O:List (Nat×Ob))(p:Nat→Bool)(ρ:Nat→Value)(S:Bool→Nat→Prop)(f:Bool)(b:Nat):Prop:=f=false∧seen B O p ρ S b
mutual
theorem rep_cv {c:Ctx}{N:Nat}{T:List (Nat×AV)}{O:List (Nat×Ob)}{a:Act}{w:World}{ρ:Nat→Value}{S:Bool→Nat→Prop}{B:Bool}{p:Nat→Bool}{U':Nat→Prop}(hc:Conc c N ⟨T,O⟩ a w ρ S)(hU:∀ l,p l=true→U' l):
   ∀ (v:AV) (x:Value),Rep w ρ S (St.U ⟨T,O⟩) v x→Rep w ρ (qoQ B O p ρ S) U' (AV.cv B O p v) x
 | .any,x,_=>by simp [AV.cv,Rep]
 | .imm v,x,h=>by simpa [AV.cv,Rep] using h
 | .dat f k es,x,h=>by
   simp only [AV.cv]
   split
   ·simp [Rep]
   ·rename_i hf
    simp only [Rep] at h ⊢
    refine RepD.mono (fun e=>by cases e) (fun b hb=>⟨rfl,?_⟩) (fun _ _=>rfl) _ _ h
    cases f with
    | false=>exact .inl hb
    | true=>exact .inr ⟨by simpa using hf,.inl hb⟩
 | .agg cs,x,h=>by
   simp only [AV.cv,Rep] at h ⊢
   obtain ⟨xs,hx,h1,h⟩:=h
   exact ⟨xs,hx,h1,qgs hc hU cs xs h⟩
 | .ptr l off,x,h=>by
   simp only [AV.cv]
   split
   ·rename_i hp
    simp only [Rep] at h ⊢
    exact ⟨hU l hp,h.2⟩
   ·simp [Rep]
 | .elp f ds,x,h=>by
   simp only [AV.cv]
   split
   ·simp [Rep]
   ·rename_i hf
    simp only [Rep] at h ⊢
    obtain ⟨b,off,hx,hb,h⟩:=h
    have hs:∀ b,S f b→qoQ B O p ρ S false b:=fun b hb=>⟨rfl,by
     cases f with
     | false=>exact .inl hb
     | true=>exact .inr ⟨by simpa using hf,.inl hb⟩⟩
    exact ⟨b,off,hx,hs b hb,qbX.mono (fun e=>by cases e) hs (fun _ _=>rfl) b hb off ds h⟩
 | .row l,x,h=>by
   simp only [AV.cv]
   split
   ·rename_i hp
    simp only [Rep] at h ⊢
    exact ⟨hU l hp,h.2⟩
   ·rename_i hp
    split
    ·rename_i e k f es hok
     split
     ·rename_i hB
      simp only [Bool.and_eq_true,Bool.not_eq_true',beq_eq_false_iff_ne] at hB
      simp only [Rep] at h
      obtain ⟨_,hx,_⟩:=h
      obtain ⟨hes,xs,how,h1,hr⟩:=hc.O l _ hok
      have hsee:∀ b,S f b→seen B O p ρ S b:=fun b hb=>by
       cases f with
       | false=>exact .inl hb
       | true=>exact .inr ⟨hB.1,.inl hb⟩
      have hp':p l=false:=by simpa using hp
      simp only [Rep,RepD,hx]
      rcases how.2 with ⟨hv,hn⟩|⟨g,cap,cur,hv,_,hh,hcap,hmax,_⟩
      ·exact ⟨none,0,0,hv,hn.symm,Nat.le_refl _,Nat.zero_le _,.inl E⟩
      ·refine ⟨some ⟨g,0,none⟩,es.length,cap,hv,rfl,hcap,hmax,.inr ⟨g,0,rfl,⟨rfl,.inr ⟨hB.1,.inr ⟨l,e,k,f,es,hok,hp',by rw [hv];rfl⟩⟩⟩,fun h=>(by cases h),?_⟩⟩
       have hr':RepL w ρ (fun g b=>qoQ B O p ρ S false b) (St.U ⟨T,O⟩) (lift f es.flatten) xs:=by
        refine RepL.gen (p:=fun _=>false) (q:=fun g=>g==f) (fun g b hg hb=>?_) (fun _ _ _ _=>rfl) (fun _ h=>by cases h) _ _ (qbU _ _ _) (qfg _ _ (by simp) _) hr
        have hgf:g=f:=by simpa using hg
        rw [hgf] at hb
        exact ⟨rfl,hsee b hb⟩
       exact qcK.mono (F:=f) (fun h=>by cases h) (fun _ h=>h) (fun _ _=>rfl) g k ⟨rfl,.inr ⟨hB.1,.inr ⟨l,e,k,f,es,hok,hp',by rw [hv];rfl⟩⟩⟩ 0 es<|qiv (S:=fun _ b=>qoQ B O p ρ S false b) (f:=f) (b:=g) (fun _ _=>trivial) (off:=0) hes hr' h1 (fun j u hu=>by rw [Nat.zero_add];exact qb8 how (by rw [hv];rfl) j u hu)
     ·simp [Rep]
    ·simp [Rep]
 | .fn f cs,x,h=>by
   simp only [AV.cv,Rep] at h ⊢
   obtain ⟨xs,hx,h⟩:=h
   exact ⟨xs,hx,qgs hc hU cs xs h⟩
 | .map l,x,h=>by
   simp only [AV.cv]
   split
   ·rename_i hp
    simp only [Rep] at h ⊢
    exact ⟨hU l hp,h.2⟩
   ·simp [Rep]
 | .tup cs,x,h=>by
   simp only [AV.cv,Rep] at h ⊢
   obtain ⟨xs,hx,h⟩:=h
   exact ⟨xs,hx,qgs hc hU cs xs h⟩
 | .vw l off n c,x,h=>by
   simp only [AV.cv]
   split
   ·rename_i hp
    simp only [Rep] at h ⊢
    exact ⟨hU l hp,h.2⟩
   ·simp [Rep]
theorem qgs {c:Ctx}{N:Nat}{T:List (Nat×AV)}{O:List (Nat×Ob)}{a:Act}{w:World}{ρ:Nat→Value}{S:Bool→Nat→Prop}{B:Bool}{p:Nat→Bool}{U':Nat→Prop}(hc:Conc c N ⟨T,O⟩ a w ρ S)(hU:∀ l,p l=true→U' l):
   ∀ (vs:List AV) (xs:List Value),RepL w ρ S (St.U ⟨T,O⟩) vs xs→RepL w ρ (qoQ B O p ρ S) U' (AV.cvs B O p vs) xs
 | [],xs,h=>by simpa [AV.cvs,RepL] using h
 | v::vs,xs,h=>by
   simp only [AV.cvs,RepL] at h ⊢
   obtain ⟨y,ys,hx,h1,h2⟩:=h
   exact ⟨y,ys,hx,rep_cv hc hU v y h1,qgs hc hU vs ys h2⟩
end
theorem ob_cv {T:List (Nat×AV)}{O:List (Nat×Ob)}{B:Bool}(hc:Conc c N ⟨T,O⟩ a w ρ S)(hU:∀ l,p l=true→U' l)
   {l:Nat} {ob:Ob} (hl:ok O l=some ob):ObOk w ρ (qoQ B O p ρ S) U' l (ob.cv B O p):=by
 have h:=hc.O l ob hl
 cases ob with
 | box cs=>
   obtain ⟨b,ty,xs,h1,h2,h3,h4⟩:=h
   exact ⟨b,ty,xs,h1,h2,h3,qgs hc hU _ _ h4⟩
 | row e k cs=>
   obtain ⟨n,xs,h1,h2,h3⟩:=h
   exact ⟨n,xs,h1,h2,qgs hc hU _ _ h3⟩
 | rowd e k f es=>
   obtain ⟨h0,xs,h1,h2,h3⟩:=h
   simp only [Ob.cv]
   split
   ·trivial
   ·rename_i hf
    have:=qgs (B:=B) (p:=p) hc hU _ _ h3
    rw [qm5 (by simpa using hf)] at this
    exact ⟨h0,xs,h1,h2,this⟩
 | mp P k ks=>
   exact h
 | dead=>trivial
 | arr e k f es=>
   obtain ⟨b,xs,h1,h2,h3,h4,h5⟩:=h
   simp only [Ob.cv]
   split
   ·trivial
   ·rename_i hf
    refine ⟨b,xs,h1,h2,h3,h4,fun i d hd=>⟨(h5 i d hd).1,?_,(h5 i d hd).2.2⟩⟩
    have:=qgs (B:=B) (p:=p) hc hU _ _ (h5 i d hd).2.1
    rw [qm5 (by simpa using hf)] at this
    exact this
 | mx it P k kvs cur=>
   simp only [Ob.cv,ObOk] at h ⊢
   exact h.mono (fun b hb=>⟨rfl,.inl hb⟩) (fun _ _=>rfl) (fun _ _=>rfl)
def argT:Nat→List AV→List (Nat×AV)
 | _,[]=>[]
 | i,v::vs=>(i,v)::argT (i+1) vs
abbrev DOk (m:Bool)(c:Ctx):Prop:=Nonempty (PLift (c.D→m=true))
instance dOk_true (c:Ctx):DOk true c:=⟨⟨fun _=>rfl⟩⟩
theorem DOk.no (h:DOk false c):¬ c.D:=fun hd=>by obtain ⟨⟨k⟩⟩:=h;exact Bool.false_ne_true (k hd)
def ACx (m:Bool)(P:Program)(f:FuncId)(args:List AV)(O:List (Nat×Ob))(Post:AV→List (Nat×Ob)→Prop):Prop:=
 ∀ (c:Ctx) (w:World) (vs:List Value) (ρ:Nat→Value) (S:Bool→Nat→Prop),c.w0=w→(∀ l,c.L l↔inD O l=true)→((∀ b,¬ S true b)∧∀ b,¬ c.Q b)→DOk m c→Conc c args.length ⟨argT 0 args,O⟩ ⟨vs.toArray,[]⟩ w ρ S→
  Calls P f vs.toArray w fun e w'=>∃ v r O',e=.returned v∧Post r O'∧C c 1 ⟨[(0,r)],O'⟩ ⟨#[v],[]⟩ w'
abbrev AC:=ACx false
theorem qmM {w:World}{ρ:Nat→Value}{S:Bool→Nat→Prop}{U:Nat→Prop}:∀ {az:List AV} {xs:List Value} (i:Nat),RepL w ρ S U az xs→∀ t v,lk (argT i az) t=some v→∃ j,t=i+j∧∃ x,xs[j]?=some x∧Rep w ρ S U v x
 | [],xs,i,h,t,v,ht=>by simp [argT,lk] at ht
 | a::az,xs,i,h,t,v,ht=>by
   simp only [RepL] at h
   obtain ⟨y,ys,rfl,h1,h2⟩:=h
   simp only [argT,qcm] at ht
   split at ht
   ·rename_i e
    simp only [Option.some.injEq] at ht;subst ht
    exact ⟨0,by omega,y,by simp,h1⟩
   ·obtain ⟨j,rfl,x,hx,hv⟩:=qmM (i+1) h2 t v ht
    exact ⟨j+1,by omega,x,by simpa using hx,hv⟩
def resA (P:Program)(σ:St):ResultVar→Option AV
 | .tmp t=>lk σ.T t
 | .cell a _=>match lk σ.T a with
   | some (.ptr l 0)=>match ok σ.O l with
     | some (.box cs)=>match cs with
       | [v]=>some v
       | cs=>some (.agg cs)
     | _=>none
   | _=>none
def resT (P:Program)(σ:St):ResultVar→Bool
 | .tmp _=>true
 | .cell a ty=>match lk σ.T a with
   | some (.ptr l 0)=>match ok σ.O l with
     | some (.box cs)=>tfB P ty (!(cs.length==1)) cs.length
     | _=>false
   | _=>false
def qiu (P:Program)(σ:St):List ResultVar→Option (List AV)
 | []=>some []
 | r::rs=>match resA P σ r,resT P σ r,qiu P σ rs with
   | some v,true,some vs=>some (v::vs)
   | _,_,_=>none
def resV:List AV→AV
 | [v]=>v
 | vs=>.tup vs
section
variable {P:Program}{c:Ctx}{N:Nat}{Q:Exit→St→Prop}{σ:St}{o:Oper}
theorem run_resA (hc:Conc c N σ a w ρ S){r:ResultVar}{v:AV}(h:resA P σ r=some v)(ht:resT P σ r=true):
   ∃ x,((match r with|.tmp t=>pure (a.tmps.getD t undef)|.cell b ty=>do loadVar ty (← asAddr (a.tmps.getD b undef)):Sem Value)).run P w=.ok x w∧Rep w ρ S σ.U v x:=by
 cases r with
 | tmp t=>exact ⟨_,rfl,hc.T t v h⟩
 | cell b ty=>
   simp only [resA,resT] at h ht
   split at h
   ·rename_i l hl
    split at h
    ·rename_i cs hcs
     have hb:=hc.T b _ hl
     simp only [Rep] at hb
     obtain ⟨_,g,hg,hbe⟩:=hb
     obtain ⟨b',t',xs,h1,h2,h3,h4⟩:=hc.O l _ hcs
     rw [h1] at hg;simp only [blk,Option.some.injEq] at hg;subst hg
     have hlen:=h4.length
     rw [hl] at ht
     simp only [hcs] at ht
     have hrun:=qcz (P:=P) ht w b' 0 xs hlen (fun j u hu=>by rw [Nat.zero_add,qdh h2];exact hu)
     refine ⟨mkV (!(cs.length==1)) xs,?_,?_⟩
     ·simp only [hbe]
      simp [Sem.run_bind,asAddr,hrun]
     ·refine qje (n:=cs.length) ?_ h3 h4
      split at h
      ·simp only [Option.some.injEq] at h;subst h;simp [mkA]
      ·rename_i hne
       simp only [Option.some.injEq] at h;subst h
       have:(cs.length==1)=false:=by
        cases hb:cs.length==1 with
        | false=>rfl
        | true=>
          have h1:cs.length=1:=by simpa using hb
          obtain ⟨z,hz⟩:=List.length_eq_one_iff.1 h1
          exact absurd hz (hne z)
       simp [mkA,this]
    ·simp at h
   ·simp at h
theorem qnD {a:Act}{w:World}{ρ:Nat→Value}{S:Bool→Nat→Prop}(hc:Conc c N σ a w ρ S):∀ {rs:List ResultVar} {vs:List AV},qiu P σ rs=some vs→
   ∃ xs:List Value,(rs.mapM (m:=Sem) fun r=>match r with|.tmp t=>pure (a.tmps.getD t undef)|.cell b ty=>do loadVar ty (← asAddr (a.tmps.getD b undef))).run P w=.ok xs w∧RepL w ρ S σ.U vs xs
 | [],vs,h=>by
   simp only [qiu,Option.some.injEq] at h;subst h
   exact ⟨[],by simp,by simp [RepL]⟩
 | r::rs,vs,h=>by
   simp only [qiu] at h
   split at h
   ·rename_i v vs' h1 h2 h3
    simp only [Option.some.injEq] at h;subst h
    obtain ⟨x,hx,hv⟩:=run_resA hc h1 h2
    obtain ⟨xs,hxs,hvs⟩:=qnD hc h3
    refine ⟨x::xs,?_,by simp only [RepL];exact ⟨x,xs,rfl,hv,hvs⟩⟩
    simp only [List.mapM_cons,Sem.run_bind,hx,Result.andThen_ok,hxs,Sem.run_pure]
   ·simp at h
def retQ (P:Program)(c:Ctx)(N:Nat)(rs:List ResultVar)(Post:AV→List (Nat×Ob)→Prop):Exit→St→Prop:=fun e σ=>
 (e=.ret∨e=.normal)∧∃ σ' vs O',Sub c N σ σ'∧qiu P σ' rs=some vs∧SubO O' σ'.O∧AV.allLs (inD O') vs=true∧allO (inD O') O'=true∧(∀ l,c.L l→inD O' l=true)∧Post (resV vs) O'
theorem qpy {args:List AV}{O:List (Nat×Ob)}{Post:AV→List (Nat×Ob)→Prop}{q:Ctx→Prop}(hf:P.funcs[f]?=some fn)(hb:fn.body=some x)(hN:fn.ntmps=N)(hn:args.length≤N)
    (H:∀ c,(∀ l,c.L l↔inD O l=true)→q c→awp P c N x (retQ P c N fn.results.toList Post) ⟨argT 0 args,O⟩):
    ∀ (c:Ctx) (w:World) (vs:List Value) (ρ:Nat→Value) (S:Bool→Nat→Prop),c.w0=w→(∀ l,c.L l↔inD O l=true)→q c→Conc c args.length ⟨argT 0 args,O⟩ ⟨vs.toArray,[]⟩ w ρ S→
    Calls P f vs.toArray w fun e w'=>∃ v r O',e=.returned v∧Post r O'∧C c 1 ⟨[(0,r)],O'⟩ ⟨#[v],[]⟩ w':=by
  intro c w vs ρ S hw0 hL hQ hc
  have hvl:vs.length=args.length:=by have:=hc.tm;simpa using this
  refine calls_of_wp hf hb ?_
  have hc':Conc c N ⟨argT 0 args,O⟩ { tmps:=vs.toArray++Array.replicate (fn.ntmps-vs.toArray.size) undef,defers:=[] } w ρ S:=by
    refine { hc with tm:=by simp;omega,df:=rfl,T:=fun t v ht=>?_ }
    have h1:=hc.T t v ht
    have hlt:t<vs.length:=by
      rw [hvl]
      have:∀ (az:List AV) (i t:Nat) (v:AV),lk (argT i az) t=some v→t<i+az.length:=by
        intro az
        induction az with
        | nil=>intro i t v h;simp [argT,lk] at h
        | cons a az ih=>
          intro i t v h
          simp only [argT,qcm] at h
          split at h
          · simp;omega
          · have:=ih (i+1) t v h;simp;omega
      have:=this args 0 t v ht
      omega
    have:(vs.toArray++Array.replicate (fn.ntmps-vs.toArray.size) undef).getD t undef=vs.toArray.getD t undef:=by
      rw [Array.getD_eq_getD_getElem?,Array.getD_eq_getD_getElem?,Array.getElem?_append_left (by simpa using hlt)]
    simp only at h1 ⊢
    rw [this];exact h1
  refine Code.wp_mono ?_ (H c hL hQ _ w ⟨ρ,S,hc'⟩)
  rintro e a' w' ⟨σ',hσ,he,σ2,rvs,O',hsub,hres,hO',hvO,hOO,hL',hP⟩
  obtain ⟨ρ2,S2,h2⟩:=hsub a' w' hσ
  obtain ⟨xs,hxs,hrep⟩:=qnD h2 hres
  have hrun:(results fn a'.tmps).run P w'=.ok (if h:xs.toArray.size=1 then xs.toArray[0] else .tuple xs.toArray) w':=by
    unfold results
    rw [Array.mapM_eq_mapM_toList]
    rw [Sem.run_bind]
    simp only [map_eq_pure_bind,Sem.run_bind]
    erw [hxs]
    rfl
  have hx:∃ v,(if h:xs.toArray.size=1 then xs.toArray[0] else .tuple xs.toArray)=v∧Rep w' ρ2 S2 σ2.U (resV rvs) v:=by
    have hl:=hrep.length
    match rvs,xs,hrep,hl with
    | [],[],h,_=>exact ⟨_,rfl,by simp only [resV,Rep];exact ⟨[],rfl,h⟩⟩
    | [v],[x],h,_=>
      simp only [RepL] at h
      obtain ⟨y,ys,h1,h2,_⟩:=h
      simp only [List.cons.injEq] at h1
      exact ⟨_,rfl,by simp only [resV];rw [h1.1];simpa using h2⟩
    | v::u::vs,x::y::zs,h,_=>exact ⟨_,rfl,by simp only [resV,Rep];exact ⟨x::y::zs,by simp,h⟩⟩
    | [],_::_,_,hl=>simp at hl
    | [_],[],_,hl=>simp at hl
    | [_],_::_::_,_,hl=>simp at hl
    | _::_::_,[],_,hl=>simp at hl
    | _::_::_,[_],_,hl=>simp at hl
  obtain ⟨v,hv,hvr⟩:=hx
  rw [hv] at hrun
  have hall:(resV rvs).allL (inD O')=true:=by
    match rvs,hvO with
    | [],_=>rfl
    | [u],h=>simpa [resV,AV.allLs] using h
    | u::u'::us,h=>simpa [resV,AV.allL] using h
  have hp:∀ l,inD O' l=true→σ2.U l→St.U ⟨[(0,resV rvs)],O'⟩ l∧ρ2 l=ρ2 l:=fun l hl _=>⟨hl,rfl⟩
  have hfin:Conc c 1 ⟨[(0,resV rvs)],O'⟩ ⟨#[v],[]⟩ w' ρ2 S2:=by
    refine ⟨rfl,rfl,fun t u ht=>?_,fun l ob hl=>?_,fun l l' ob ob' b h1 h3=>h2.dj l l' ob ob' b (hO' l ob h1) (hO' l' ob' h3),fun l ob b f h1=>h2.dS l ob b f (hO' l ob h1),fun l ob b h1=>h2.wr l ob b (hO' l ob h1),fun l ob b h1=>h2.lt l ob b (hO' l ob h1),h2.SS,h2.Sb,h2.Sn,h2.So,fun l hl=>⟨hL' l hl,(h2.lo l hl).2⟩,h2.fm⟩
    · simp only [qcm] at ht
      split at ht
      · rename_i e;subst e
        simp only [Option.some.injEq] at ht;subst ht
        exact Rep.move (fun _ _ h=>h) (fun _ _ _=>rfl) hp _ _ hall hvr
      · simp [lk] at ht
    · exact (h2.O l ob (hO' l ob hl)).move (fun _ _ h=>h) (fun _ _ _=>rfl) hp E (qna hOO hl) (fun _ _=>rfl)
  rcases he with rfl|rfl
  · exact ⟨h2.df,v,hrun,v,resV rvs,O',rfl,hP,ρ2,S2,hfin⟩
  · exact ⟨h2.df,v,hrun,v,resV rvs,O',rfl,hP,ρ2,S2,hfin⟩
theorem qI {m:Bool}{args:List AV}{O:List (Nat×Ob)}{Post:AV→List (Nat×Ob)→Prop}(hf:P.funcs[f]?=some fn)(hb:fn.body=some x)(hN:fn.ntmps=N)(hn:args.length≤N)
  (H:∀ c,(∀ l,c.L l↔inD O l=true)→(∀ b,¬ c.Q b)→DOk m c→awp P c N x (retQ P c N fn.results.toList Post) ⟨argT 0 args,O⟩):ACx m P f args O Post:=
 fun c w vs ρ S h0 hL h2 hD hc=>qpy (q:=fun c=>(∀ b,¬ c.Q b)∧DOk m c) hf hb hN hn (fun c h1 h2=>H c h1 h2.1 h2.2) c w vs ρ S h0 hL ⟨h2.2,hD⟩ hc
def ACt (P:Program)(f:FuncId)(args:List AV)(O:List (Nat×Ob))(Post:AV→List (Nat×Ob)→Prop):Prop:=
 ∀ (c:Ctx) (w:World) (vs:List Value) (ρ:Nat→Value) (S:Bool→Nat→Prop),c.w0=w→(∀ l,c.L l↔inD O l=true)→DOk false c→Conc c args.length ⟨argT 0 args,O⟩ ⟨vs.toArray,[]⟩ w ρ S→
  Calls P f vs.toArray w fun e w'=>∃ v r O',e=.returned v∧Post r O'∧C c 1 ⟨[(0,r)],O'⟩ ⟨#[v],[]⟩ w'
theorem qi5 {args:List AV}{O:List (Nat×Ob)}{Post:AV→List (Nat×Ob)→Prop}(hf:P.funcs[f]?=some fn)(hb:fn.body=some x)(hN:fn.ntmps=N)(hn:args.length≤N)
  (H:∀ c,(∀ l,c.L l↔inD O l=true)→DOk false c→awp P c N x (retQ P c N fn.results.toList Post) ⟨argT 0 args,O⟩):ACt P f args O Post:=
 fun c w vs ρ S h0 hL hD hc=>qpy (q:=fun c=>DOk false c) hf hb hN hn (fun c h h2=>H c h h2) c w vs ρ S h0 hL hD hc
end
end Go.Proofs.YtpgceiijoedppaaGreat
namespace Go.Proofs.YtpgceiijoedppaaGreat
open Go
mutual
theorem qld:∀ v:AV,v.allL (fun _=>true)=true
 | .any=>rfl
 | .imm _=>rfl
 | .dat _ _ _=>rfl
 | .agg cs=>by simp only [AV.allL];exact qfh cs
 | .ptr _ _=>rfl
 | .elp _ _=>rfl
 | .row _=>rfl
 | .fn _ cs=>by simp only [AV.allL];exact qfh cs
 | .map _=>rfl
 | .tup cs=>by simp only [AV.allL];exact qfh cs
 | .vw _ _ _ _=>rfl
theorem qfh:∀ vs:List AV,AV.allLs (fun _=>true) vs=true
 | []=>rfl
 | v::vs=>by simp only [AV.allLs,qld v,qfh vs,Bool.and_self]
end
mutual
theorem qlc:∀ v:AV,v.allQ (fun _=>true)=true
 | .any=>rfl
 | .imm _=>rfl
 | .dat _ _ _=>rfl
 | .agg cs=>by simp only [AV.allQ];exact qc9 cs
 | .ptr _ _=>rfl
 | .elp _ _=>rfl
 | .row _=>rfl
 | .fn _ cs=>by simp only [AV.allQ];exact qc9 cs
 | .map _=>rfl
 | .tup cs=>by simp only [AV.allQ];exact qc9 cs
 | .vw _ _ _ _=>rfl
theorem qc9:∀ vs:List AV,AV.allQs (fun _=>true) vs=true
 | []=>rfl
 | v::vs=>by simp only [AV.allQs,qlc v,qc9 vs,Bool.and_self]
end
theorem qlX:∀ v:Ob,v.allL (fun _=>true)=true
 | .box cs=>qfh cs
 | .row _ _ cs=>qfh cs
 | .rowd _ _ _ _=>rfl
 | .mp _ _ _=>rfl
 | .dead=>rfl
 | .arr _ _ _ _=>rfl
 | .mx _ _ _ _ _=>rfl
theorem qlW:∀ v:Ob,v.allQ (fun _=>true)=true
 | .box cs=>qc9 cs
 | .row _ _ cs=>qc9 cs
 | .rowd _ _ _ _=>rfl
 | .mp _ _ _=>rfl
 | .dead=>rfl
 | .arr _ _ _ _=>rfl
 | .mx _ _ _ _ _=>rfl
theorem qeN (O' O:List (Nat×Ob))(l:Nat):ok (O'++O) l=(match ok O' l with|some v=>some v|none=>ok O l):=by
 induction O' with
 | nil=>rfl
 | cons p O' ih=>
   obtain ⟨s,v⟩:=p
   simp only [List.cons_append,qa0]
   by_cases h:s=l
   ·simp [h]
   ·simp [h,ih]
def qle (B:Bool)(O Oin:List (Nat×Ob)):Prop:=∀ l ob',ok Oin l=some ob'→∃ ob,ok O l=some ob∧ob.live∧ob'=ob.cv B O (inD Oin)
theorem qle.nil {B:Bool}{O:List (Nat×Ob)}:qle B O []:=fun l ob' h=>by simp [ok] at h
def qov (q:Bool→Bool):List (Nat×Ob)→Bool
 | []=>true
 | (_,v)::T=>v.allQ q&&qov q T
theorem qou {q:Bool→Bool}:∀ {T:List (Nat×Ob)} {t:Nat} {v:Ob},qov q T=true→ok T t=some v→v.allQ q=true
 | (s,u)::T,t,v,h,hv=>by
   simp only [qov,Bool.and_eq_true] at h
   rw [qa0] at hv
   split at hv
   ·simp only [Option.some.injEq] at hv;subst hv;exact h.1
   ·exact qou h.2 hv
def qY (P:Program)(g:FuncId):Prop:=∀ args w,(callFunc g args).run P w=.ok (.enter g args) w
theorem qG {P:Program}{f:FuncId}{fn:Func}(hf:P.funcs[f]?=some fn)(hname:(fn.name== "runtime.NumGoroutine")=false)(hb:fn.body.isNone=false):qY P f:=by
 intro args w
 have hn:fn.name≠ "runtime.NumGoroutine" := by simpa using hname
 cases hbb:fn.body with
 | none=>rw [hbb] at hb;cases hb
 | some c=>simp [callFunc,program,Sem.run_bind,Sem.run,hf,hn,hbb]
section
variable {P:Program}{c:Ctx}{N:Nat}{Q:Exit→St→Prop}{σ:St}{o:Oper}
theorem qhn {m:Bool}[hDk:DOk m c]{x:Operand}{xs:List Operand}{tys:Array TypeId}{g:FuncId}{caps avs args:List AV}{T:List (Nat×AV)}{O Oin:List (Nat×Ob)}{Post:AV→List (Nat×Ob)→Prop}{Φ:St→Prop}(B:Bool)
    (ho:o.op=.call { callee:=.value x,args:=xs.toArray,argTypes:=tys }) (hdN:∀ d,o.dst=some d→d<N) (hen:qY P g)
    (hx:ev T x=some (.fn g caps)) (hxs:xs.map (ev T)=avs.map some) (hcv:AV.cvs B O (inD Oin) (avs++caps)=args) (hOin:qle B O Oin) (hAC:ACx m P g args Oin Post)
    (hfr:∀ r O',Post r O'→∀ l,inD O' l=true→inD Oin l=true∨inD O l=false)
    (hq:B=true→∀ r O',Post r O'→r.allQ (fun f=>f)=true∧qov (fun f=>f) O'=true)
    (K:∀ r O',Post r O'→Φ (St.put ⟨T,O'++O⟩ o.dst r)):AOp P c N o ⟨T,O⟩ Φ:=by
  rintro a w ⟨ρ,S,hc⟩
  have hf:=qaz hc hx
  simp only [Rep] at hf
  obtain ⟨cs,hfe,hcs⟩:=hf
  have has:=qj6 (σ:=⟨T,O⟩) hc (fun _ _ _ h=>h) hxs
  have hall:=qgs (B:=B) (p:=inD Oin) (U':=St.U ⟨argT 0 args,Oin⟩) hc (fun l h=>h) _ _ (has.append hcs)
  rw [hcv] at hall
  have hpl:∀ l,inD Oin l=true→∃ ob,ok O l=some ob∧ob.live:=fun l hl=>by
    obtain ⟨ob',h'⟩:=Option.isSome_iff_exists.1 (show (ok Oin l).isSome=true from hl)
    obtain ⟨ob,h1,h2,_⟩:=hOin l ob' h'
    exact ⟨ob,h1,h2⟩
  let W:Nat→Prop:=fun b=>∃ l,inD Oin l=true∧blk (ρ l)=some b
  let cc:Ctx:=⟨w,W,seen B O (inD Oin) ρ S,ρ,fun l=>inD Oin l=true,fun _=>False,c.D,fun _=>False⟩
  have hseen:∀ b,seen B O (inD Oin) ρ S b→b<w.heap.size∧∀ l,inD Oin l=true→blk (ρ l)≠some b:=by
    intro b hb
    rcases hb with h|⟨_,h|⟨l,e,k,f,es,h1,h2,h3⟩⟩
    · exact ⟨hc.Sb _ b h,fun l hl e=>by obtain ⟨ob,h1,h2⟩:=hpl l hl;exact hc.dS l ob b _ h1 h2 e h⟩
    · exact ⟨hc.Sb _ b h,fun l hl e=>by obtain ⟨ob,h1,h2⟩:=hpl l hl;exact hc.dS l ob b _ h1 h2 e h⟩
    · refine ⟨hc.lt l _ b h1 trivial h3,fun m hm e'=>?_⟩
      obtain ⟨ob,h4,h5⟩:=hpl m hm
      have:=hc.dj m l ob _ b h4 h1 h5 trivial e' h3
      subst this;rw [hm] at h2;cases h2
  have hent:Conc cc args.length ⟨argT 0 args,Oin⟩ ⟨(xs.map a.eval++cs).toArray,[]⟩ w ρ (qoQ B O (inD Oin) ρ S):=by
    refine ⟨by have:=hall.length;simpa using this,rfl,fun t v ht=>?_,fun l ob' hl=>?_,fun l l' ob ob' b h1 h2 h3 h4 h5 h6=>?_,fun l ob b f h1 h2 h3 h4=>?_,fun l ob b h1 h2 h3=>?_,fun l ob b h1 h2 h3=>?_,fun b h=>(by cases h.1.1),fun f b h=>(hseen b h.2).1,fun b h=>(by cases h.1),fun b h=>.inl h.2,fun l hl=>⟨hl,rfl⟩,Fm.start (c:=cc) (fun _ h=>h.elim) (fun _ h=>h.elim) (fun b h=>(by cases h.1))⟩
    · obtain ⟨j,h1,y,hy,hv⟩:=qmM 0 hall t v ht
      have:(xs.map a.eval++cs).toArray.getD t undef=y:=by
        rw [Array.getD_eq_getD_getElem?]
        simp only [List.getElem?_toArray]
        rw [h1,Nat.zero_add,hy];rfl
      simp only
      rw [this];exact hv
    · obtain ⟨ob,h1,h2,rfl⟩:=hOin l ob' hl
      exact ob_cv hc (fun l h=>h) h1
    · obtain ⟨o1,k1,k2,rfl⟩:=hOin l ob h1
      obtain ⟨o2,k3,k4,rfl⟩:=hOin l' ob' h2
      exact hc.dj l l' o1 o2 b k1 k3 k2 k4 h5 h6
    · exact (hseen b h4.2).2 l (by simp [inD,h1]) h3
    · have hl:inD Oin l=true:=by simp [inD,h1]
      exact .inr ⟨hl,l,hl,h3⟩
    · obtain ⟨o1,k1,k2,rfl⟩:=hOin l ob h1
      exact hc.lt l o1 b k1 k2 h3
  have hcall:=hAC cc w (xs.map a.eval++cs) ρ _ E (fun l=>Iff.rfl) ⟨fun b h=>(by cases h.1),fun b h=>h⟩ hDk hent
  have hex:(execOp a.eval o).run P w=.ok (.enter g (xs.map a.eval++cs).toArray) w:=by
    simp only [execOp,ho,resolve]
    simp [Sem.run_bind,hfe,Deferred.ofValue,invoke,hen _ _]
  unfold Oper.wp
  rw [hex]
  simp only [Oper.upon_enter]
  refine Calls.mono hcall ?_
  rintro e w' ⟨v,r,O',rfl,hP,ρ',S',h'⟩
  simp only
  refine ⟨_,?_,K r O' hP⟩
  have hfar:=h'.fm
  have hsz:w.heap.size≤w'.heap.size:=hfar.size
  have hin:∀ l,inD Oin l=true→inD O' l=true∧ρ' l=ρ l:=fun l hl=>h'.lo l hl
  have hw0:=hc.fm.size
  let ρ'':Nat→Value:=fun l=>if inD O' l=true then ρ' l else ρ l
  let S'':Bool→Nat→Prop:=fun f b=>S f b∨(S' f b∧w.heap.size≤b)
  have hρ1:∀ l,inD O' l=true→ρ'' l=ρ' l:=fun l hl=>if_pos hl
  have hρ2:∀ l,inD O l=true→ρ'' l=ρ l:=fun l hl=>by
    by_cases h:inD O' l=true
    · rw [hρ1 l h]
      rcases hfr r O' hP l h with h1|h1
      · exact (hin l h1).2
      · rw [hl] at h1;cases h1
    · exact if_neg h
  have hnW:∀ l ob b,ok O l=some ob→ob.live→inD O' l=false→blk (ρ l)=some b→¬ W b:=fun l ob b h1 h2 h3 h4 ⟨m,hm,hb⟩=>by
    obtain ⟨o1,k1,k2⟩:=hpl m hm
    have:=hc.dj m l o1 ob b k1 h1 k2 h2 hb h4
    subst this;rw [(hin m hm).1] at h3;cases h3
  have hSW:∀ f b,S f b→w'.heap[b]?=w.heap[b]?:=fun f b hb=>hfar.block b (hc.Sb f b hb) fun ⟨m,hm,e⟩=>by
    obtain ⟨o1,k1,k2⟩:=hpl m hm
    exact hc.dS m o1 b f k1 k2 e hb
  have hUO:∀ l,inD O l=true→St.U ⟨T,O'++O⟩ l:=fun l hl=>by
    simp only [St.U,qeN]
    split
    · rfl
    · exact hl
  have hUO':∀ l,inD O' l=true→St.U ⟨T,O'++O⟩ l:=fun l hl=>by
    simp only [St.U,qeN]
    split
    · rfl
    · rename_i h;simp [inD,h] at hl
  let q:Bool→Bool:=if B=true then (fun f=>f) else fun _=>true
  have hqS:∀ f b,q f=true→S' f b→S'' f b:=fun f b hqf hb=>by
    cases f with
    | true=>exact .inr ⟨hb,(h'.Sn b hb).resolve_left (fun h=>h)⟩
    | false=>
      by_cases hB:B=true
      · simp [q,hB] at hqf
      · rcases h'.So b hb with h|h
        · rcases h with h|⟨h,_⟩
          · exact .inl h
          · exact absurd h hB
        · exact .inr ⟨hb,h⟩
  have hqr:r.allQ q=true:=by
    by_cases hB:B=true
    · simp only [q,hB,if_true];exact (hq hB r O' hP).1
    · simp only [q,hB,if_false];exact qlc r
  have hqO:∀ l ob,ok O' l=some ob→ob.allQ q=true:=fun l ob hl=>by
    by_cases hB:B=true
    · simp only [q,hB,if_true];exact qou (hq hB r O' hP).2 hl
    · simp only [q,hB,if_false];exact qlW ob
  have hpp:∀ l,(fun _:Nat=>true) l=true→St.U ⟨[(0,r)],O'⟩ l→St.U ⟨T,O'++O⟩ l∧ρ'' l=ρ' l:=fun l _ hl=>⟨hUO' l hl,hρ1 l hl⟩
  have hsp:∀ l ob,ok (O'++O) l=some ob→ok O' l=some ob∨(inD O' l=false∧ok O l=some ob):=fun l ob h=>by
    rw [qeN] at h
    split at h
    · rename_i v hv;simp only [Option.some.injEq] at h;subst h;exact .inl hv
    · rename_i hv;exact .inr ⟨by simp [inD,hv],h⟩
  have hblk:∀ l ob b,ok O' l=some ob→ob.live→blk (ρ'' l)=some b→(inD Oin l=true∧blk (ρ l)=some b)∨(w.heap.size≤b):=fun l ob b h1 h2 h3=>by
    have hl:inD O' l=true:=by simp [inD,h1]
    rw [hρ1 l hl] at h3
    rcases h'.wr l ob b h1 h2 h3 with h|⟨h,_⟩
    · exact .inr h
    · exact .inl ⟨h,by rw [← (hin l h).2];exact h3⟩
  have hnew:Conc c N ⟨T,O'++O⟩ a w' ρ'' S'':=by
    refine ⟨hc.tm,hc.df,fun t v ht=>(hc.T t v ht).mono (fun f b h=>.inl h) hSW hUO hρ2,fun l ob hl=>?_,fun l l' ob ob' b h1 h2 h3 h4 h5 h6=>?_,fun l ob b f h1 h2 h3 h4=>?_,fun l ob b h1 h2 h3=>?_,fun l ob b h1 h2 h3=>?_,?_,?_,?_,?_,fun l hl=>?_,?_⟩
    · rcases hsp l ob hl with h1|⟨h1,h2⟩
      · have hl1:inD O' l=true:=by simp only [inD,h1];rfl
        exact ObOk.gen hqS (fun _ _ _ _=>rfl) hpp (hρ1 l hl1) (qlX ob) (hqO l ob h1) (fun _ _=>rfl) (h'.O l ob h1)
      · by_cases hv:ob.live
        · exact (hc.O l ob h2).mono (fun f b h=>.inl h) hSW hUO hρ2 (show St.U ⟨T,O⟩ l by simp [St.U,h2]) (fun b hb=>hfar.block b (hc.lt l ob b h2 hv hb) (hnW l ob b h2 hv h1 hb))
        · cases ob<;>first|exact absurd trivial hv|trivial
    · have mix:∀ l l' ob ob' b,ok O' l=some ob→(inD O' l'=false∧ok O l'=some ob')→ob.live→ob'.live→blk (ρ'' l)=some b→blk (ρ'' l')=some b→l=l':=by
        rintro l l' ob ob' b k1 ⟨k2,k3⟩ k4 k5 k6 k7
        have k8:blk (ρ l')=some b:=by rw [← hρ2 l' (by simp [inD,k3])];exact k7
        rcases hblk l ob b k1 k4 k6 with ⟨k9,k10⟩|k9
        · obtain ⟨o1,j1,j2⟩:=hpl l k9
          exact hc.dj l l' o1 ob' b j1 k3 j2 k5 k10 k8
        · have:=hc.lt l' ob' b k3 k5 k8;omega
      rcases hsp l ob h1 with k1|k1<;>rcases hsp l' ob' h2 with k2|k2
      · rw [hρ1 l (by simp [inD,k1])] at h5
        rw [hρ1 l' (by simp [inD,k2])] at h6
        exact h'.dj l l' ob ob' b k1 k2 h3 h4 h5 h6
      · exact mix l l' ob ob' b k1 k2 h3 h4 h5 h6
      · exact (mix l' l ob' ob b k2 k1 h4 h3 h6 h5).symm
      · rw [hρ2 l (by simp [inD,k1.2])] at h5
        rw [hρ2 l' (by simp [inD,k2.2])] at h6
        exact hc.dj l l' ob ob' b k1.2 k2.2 h3 h4 h5 h6
    · rcases hsp l ob h1 with k1|⟨k1,k2⟩
      · rcases h4 with h4|⟨h4,h7⟩
        · rcases hblk l ob b k1 h2 h3 with ⟨k9,k10⟩|k9
          · obtain ⟨o1,j1,j2⟩:=hpl l k9
            exact hc.dS l o1 b f j1 j2 k10 h4
          · have:=hc.Sb f b h4;omega
        · rw [hρ1 l (by simp [inD,k1])] at h3
          exact h'.dS l ob b f k1 h2 h3 h4
      · rw [hρ2 l (by simp [inD,k2])] at h3
        rcases h4 with h4|⟨h4,h7⟩
        · exact hc.dS l ob b f k2 h2 h3 h4
        · have:=hc.lt l ob b k2 h2 h3;omega
    · rcases hsp l ob h1 with k1|⟨k1,k2⟩
      · rcases hblk l ob b k1 h2 h3 with ⟨k9,k10⟩|k9
        · obtain ⟨o1,j1,j2⟩:=hpl l k9
          exact hc.wr l o1 b j1 j2 k10
        · exact .inl (by omega)
      · rw [hρ2 l (by simp [inD,k2])] at h3
        exact hc.wr l ob b k2 h2 h3
    · rcases hsp l ob h1 with k1|⟨k1,k2⟩
      · rw [hρ1 l (by simp [inD,k1])] at h3
        exact h'.lt l ob b k1 h2 h3
      · rw [hρ2 l (by simp [inD,k2])] at h3
        exact Nat.lt_of_lt_of_le (hc.lt l ob b k2 h2 h3) hsz
    · rintro b ⟨h1|⟨h1,h3⟩,h2|⟨h2,h4⟩⟩
      · exact hc.SS b ⟨h1,h2⟩
      · have:=hc.Sb _ b h1;omega
      · have:=hc.Sb _ b h2;omega
      · exact h'.SS b ⟨h1,h2⟩
    · rintro f b (h1|⟨h1,h3⟩)
      · exact Nat.lt_of_lt_of_le (hc.Sb f b h1) hsz
      · exact h'.Sb f b h1
    · rintro b (h1|⟨h1,h3⟩)
      · exact hc.Sn b h1
      · exact .inr (by omega)
    · rintro b (h1|⟨h1,h3⟩)
      · exact hc.So b h1
      · exact .inr (by omega)
    · obtain ⟨h1,h2⟩:=hc.lo l hl
      exact ⟨hUO l h1,by rw [hρ2 l h1];exact h2⟩
    · refine hc.fm.grow hfar.toFar0 (fun hd=>hfar.dr hd) (fun f b h=>⟨f,.inl h⟩) hSW (fun b h=>h.elim .inl fun h=>.inr (h'.fm.uf b h.1)) ?_
      rintro b hb ⟨m,hm,e⟩
      obtain ⟨o1,k1,k2⟩:=hpl m hm
      rcases hc.wr m o1 b k1 k2 e with h|h
      · omega
      · exact h.2
  have hrr:Rep w' ρ'' S'' (St.U ⟨T,O'++O⟩) r v:=by
    have h1:=h'.T 0 r (by simp [qcm])
    exact Rep.gen hqS (fun _ _ _ _=>rfl) hpp r v (qld r) hqr h1
  exact ⟨_,_,hnew.put hdN hrr⟩
end
end Go.Proofs.YtpgceiijoedppaaGreat