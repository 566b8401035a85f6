/- Part 1 of the proof: SymA, SymB, SymC. -/
import Derived.WalkKit
import Derived.Orders
import Derived.Below
import Derived.Maps.Own
import Derived.Maps.Ext
import Derived.Maps.Range
import Derived.LoopN
import Derived.Laws.Rows
import Derived.Laws.CopyRow
import Derived.KernelRfl
namespace Go.Proofs.YtpgceiijoedppaaGreat
variable {p:Prop}
theorem E.{u}{α:Sort u}{a:α}:a=a:=rfl
theorem zD [i:Decidable p](h:decide p=true:=by rfl):p:=of_decide_eq_true h
theorem zO (h:p:=by omega):p:=h
theorem zL {m n:Nat}(h:Nat.ble m n=true:=by rfl):m≤n:=Nat.le_of_ble_eq_true h
end Go.Proofs.YtpgceiijoedppaaGreat
set_option linter.unusedVariables false
set_option linter.unusedSimpArgs false
namespace Go.Proofs.YtpgceiijoedppaaGreat
open Go
variable {F F' W:Nat→Prop}{P:Program}{S S':Bool→Nat→Prop}{a:Act}{b:Bool}{id j t:Nat}{k:TypeId}{l:List Addr}{o:Oper}{ops:Array Oper}{rest:List Oper}{v:Value}{w w':World}{x y z:Code}{α:Type}{ρ:Nat→Value}
theorem qke {p:Program}{at_:Addr}{u:TypeId}{k:Addr}(h:w.viewStore p at_ u k v b=.ok (w',l)):w'.drawn=w.drawn:=by
 unfold World.viewStore at h
 simp only [bind,Except.bind,pure,Except.pure,throw,throwThe,MonadExceptOf.throw] at h
 repeat' split at h
 all_goals first|cases h|skip
 all_goals rfl
theorem qla {α:Type}:∀ (x:Ask α) (w:World),w.drawn≤(w.ask x).2.drawn
 | .done a,w=>Nat.le_refl _
 | .ask what range k,w=>by
   simp only [World.ask]
   split
   ·exact qla (k 0) w
   ·exact Nat.le_trans (Nat.le_succ _) (qla (k _) { w with drawn:=w.drawn+1 })
theorem qrE (w:World)(c:Sys):w.drawn≤(w.sys c).2.drawn:=by
 unfold World.sys
 split
 ·exact Nat.le_refl _
 ·rename_i r os w2 _ h
  have:=qla (Kernel.perform c w.os) w
  rw [h] at this
  exact this
theorem qlt {a:Addr}(h:w.farStore P a v b=.ok (w',l)):w'.drawn=w.drawn:=by
 unfold World.farStore at h
 split at h
 ·split at h
  ·rename_i r h3;cases h;exact qke h3
  ·cases h
 ·cases h
theorem qn2 (w:World)(a:Addr)(n:Nat):(w.freeze a n).drawn=w.drawn:=by unfold World.freeze;split<;>rfl
theorem qku (x:Sem α):∀ (w:World) (v:α) (w':World),x.run P w=.ok v w'→w.drawn≤w'.drawn:=by
 induction x with
 | pure a=>intro w v w' h;simp only [Sem.run] at h;cases h;exact Nat.le_refl _
 | load m a k ih=>
   intro w v w' h
   simp only [Sem.run] at h
   split at h
   ·have:=ih _ _ _ _ h;exact this
   ·split at h
    ·have:=ih _ _ _ _ h;exact this
    ·cases h
 | store m a u k ih=>
   intro w v w' h
   have key:∀ r:Result α,r=.ok v w'→(∀ w2:World,w2.drawn=w.drawn→r=k.run P w2→w.drawn≤w'.drawn):=fun r hr w2 h2 h3=>by
    have:=ih w2 v w' (by rw [← h3];exact hr)
    omega
   cases u<;>simp only [Sem.run] at h<;>first
    | (cases h;done)
    | (split at h
       ·split at h
        ·cases h
        ·exact key _ h (w.setCell a _) E E
       ·split at h
        ·rename_i h2;exact key _ h _ (qlt h2) E
        ·cases h)
 | new o k ih=>intro w v w' h;simp only [Sem.run] at h;have:=ih _ _ _ _ h;exact this
 | shape r k ih=>intro w v w' h;simp only [Sem.run] at h;have:=ih _ _ _ _ h;exact this
 | freeze a n k ih=>
   intro w v w' h
   simp only [Sem.run] at h
   have:=ih _ _ _ h
   rw [qn2] at this;exact this
 | frozen a k ih=>intro w v w' h;simp only [Sem.run] at h;have:=ih _ _ _ _ h;exact this
 | getObj r k ih=>
   intro w v w' h
   simp only [Sem.run] at h
   split at h
   ·cases h
   ·have:=ih _ _ _ _ h;exact this
   ·cases h
 | setObj r o k ih=>
   intro w v w' h
   simp only [Sem.run] at h
   split at h
   ·cases h
   ·have:=ih _ _ _ h;exact this
   ·cases h
 | choose q k ih=>
   intro w v w' h
   simp only [Sem.run] at h
   split at h
   ·have:=ih _ _ _ _ h;exact this
   ·have:=ih _ _ _ _ h;exact Nat.le_trans (Nat.le_succ _) this
 | sys c k ih=>
   intro w v w' h
   simp only [Sem.run] at h
   have:=ih _ _ _ _ h
   exact Nat.le_trans (qrE w c) this
 | program k ih=>intro w v w' h;simp only [Sem.run] at h;have:=ih _ _ _ _ h;exact this
 | mark m k ih=>intro w v w' h;simp only [Sem.run] at h;have:=ih _ _ _ h;exact this
 | halt h=>intro w v w' h;simp only [Sem.run] at h;cases h
inductive D where
 | imm (v:Value)
 | sl (k:Nat) (es:List (List D))
def Zsz (t:TypeId):Nat:=[1,1,1,1,1,1,1,4,4,1,1,1,1,2,2,1,1,1,1,1,1,1,1,1,1,4,4,1,1,1,7,7,1,4,4,9,9,1,16,16,1,1,1,1,1,1,1,1,1,1,1,1,2,2,4,4,1,1,1,1,1,1,1,1,1,1,1,1,6,6,7,7,1,1,1,1,1,1,1,1,1,1,1,1,1,1,9,9,1,1,1,1,1,1,1,1,1,1,1,1,1,1,1,1,1,1,1,1,1,1,1,1,1,1,1,1,1,5,5,1,9,9,1,1,1,1,1,1,1,1,1,1,1,1,1,1,1,1,1,1,1,1,5,5,1,1,1,1,1,1,1,1,1,1,1,1,1,1,1,1,1,1,1,1,1,1,1,1,3,1,1,1,1,1,1,1,1,1,1,1,1,1,1,1,1,1,1,1,1,1,1,1,1,1,1,1,1,1,1,1,1,1,1,1,1,1,1,1,1,1,1,1,1,1,1,1,1,1,1,1,1,1,1,1,2,2,1,1,1,1,1,1,1,1,1,1,1,1,1,1,1,1,1,1,1,1,1,1,1,1,1,1,1,1,1,1,1,1,1,1,1,1,1,1,1,1,1,1,3,3,1,1,1,1,1,1,8,8,1,1,1,1,1,1,1,1,1,1,1,1,1,1,1,1,1,1,1,1,1,1,1,1,1,1,1,1,1,1,1,1,1,1,1,1,1,1,1,1,1,1,1,1,1,1,1,1,1,1,1,1,1,1,1,1,1,1,1,1,1,1,1,1,1,1,1,4,4,0,0,0,1,1,1,1,1,1,11,11,1].getD t 0
def Al (w:World)(b k off:Nat):Prop:=off % k=0∧∃ cur ty fr,w.heap[b]?=some (.cells cur ty fr)∧Zsz ty=k
theorem Al.of_block {b k off:Nat}(h:Al w b k off)(hb:w'.heap[b]?=w.heap[b]?):Al w' b k off:=by
 obtain ⟨h1,cur,ty,fr,h2,h3⟩:=h
 exact ⟨h1,cur,ty,fr,by rw [hb,h2],h3⟩
mutual
def RepD (w:World)(F:Bool)(S:Nat→Prop):D→Value→Prop
 | .imm v,x=>x=v
 | .sl k es,x=>∃ A n c,x=.slice A n c∧n=es.length∧n≤c∧c≤maxLen∧(n=0∨∃ b off,A=some ⟨b,off,none⟩∧S b∧(F=true→Al w b k off)∧qcK w F S b k off es)
def qcK (w:World)(F:Bool)(S:Nat→Prop)(b k:Nat):Nat→List (List D)→Prop
 | _,[]=>True
 | off,e::es=>(e.length=k∧qbX w F S b off e)∧qcK w F S b k (off+k) es
def qbX (w:World)(F:Bool)(S:Nat→Prop)(b:Nat):Nat→List D→Prop
 | _,[]=>True
 | off,d::ds=>(∃ v,w.cell? ⟨b,off,none⟩=some v∧v.oneCell'=true∧RepD w F S d v)∧qbX w F S b (off+1) ds
end
inductive AV where
 | any
 | imm (v:Value)
 | dat (f:Bool) (k:Nat) (es:List (List D))
 | agg (cs:List AV)
 | ptr (l off:Nat)
 | elp (f:Bool) (cs:List D)
 | row (l:Nat)
 | fn (f:FuncId) (caps:List AV)
 | map (l:Nat)
 | tup (vs:List AV)
 | vw (l off n c:Nat)
def blk:Value→Option Nat
 | .pointer (some a)=>some a.block
 | .slice (some a) _ _=>some a.block
 | .map (some r)=>some r
 | _=>none
mutual
def Rep (w:World)(ρ:Nat→Value)(S:Bool→Nat→Prop)(U:Nat→Prop):AV→Value→Prop
 | .any,_=>True
 | .imm v,x=>x=v
 | .dat f k es,x=>RepD w f (S f) (.sl k es) x
 | .agg cs,x=>∃ xs:List Value,x=.agg xs.toArray∧(∀ y∈xs,y.oneCell'=true)∧RepL w ρ S U cs xs
 | .ptr l off,x=>U l∧∃ b,blk (ρ l)=some b∧x=.pointer (some ⟨b,off,none⟩)
 | .elp f cs,x=>∃ b off,x=.pointer (some ⟨b,off,none⟩)∧S f b∧qbX w f (S f) b off cs
 | .row l,x=>U l∧x=ρ l∧∃ A n c,x=.slice A n c
 | .fn f caps,x=>∃ xs:List Value,x=.func (.func f) #[] xs.toArray∧RepL w ρ S U caps xs
 | .map l,x=>U l∧x=ρ l∧∃ r,x=.map (some r)
 | .tup vs,x=>∃ xs:List Value,x=.tuple xs.toArray∧RepL w ρ S U vs xs
 | .vw l off n c,x=>U l∧∃ b,(∃ m,ρ l=.slice (some ⟨b,0,none⟩) m m)∧x=.slice (some ⟨b,off,none⟩) n c
def RepL (w:World)(ρ:Nat→Value)(S:Bool→Nat→Prop)(U:Nat→Prop):List AV→List Value→Prop
 | [],xs=>xs=[]
 | a::az,xs=>∃ y ys,xs=y::ys∧Rep w ρ S U a y∧RepL w ρ S U az ys
end
mutual
theorem RepD.mono {w w':World}{F F':Bool}{S S':Nat→Prop}(hF:F'=true→F=true)(hS:∀ b,S b→S' b)(hw:∀ b,S b→w'.heap[b]?=w.heap[b]?):
   ∀ (d:D) (x:Value),RepD w F S d x→RepD w' F' S' d x
 | .imm v,x,h=>by simpa [RepD] using h
 | .sl k es,x,h=>by
   simp only [RepD] at h ⊢
   obtain ⟨A,n,c,rfl,hn,hc,hm,h⟩:=h
   refine ⟨A,n,c,rfl,hn,hc,hm,?_⟩
   rcases h with h|⟨b,off,hA,hb,hal,h⟩
   ·exact .inl h
   ·exact .inr ⟨b,off,hA,hS b hb,fun e=>(hal (hF e)).of_block (hw b hb),qcK.mono hF hS hw b k hb off es h⟩
theorem qcK.mono {w w':World}{F F':Bool}{S S':Nat→Prop}(hF:F'=true→F=true)(hS:∀ b,S b→S' b)(hw:∀ b,S b→w'.heap[b]?=w.heap[b]?)(b k:Nat)(hb:S b):
   ∀ (off:Nat) (es:List (List D)),qcK w F S b k off es→qcK w' F' S' b k off es
 | _,[],_=>by simp [qcK]
 | off,e::es,h=>by
   simp only [qcK] at h ⊢
   exact ⟨⟨h.1.1,qbX.mono hF hS hw b hb off e h.1.2⟩,qcK.mono hF hS hw b k hb (off+k) es h.2⟩
theorem qbX.mono {w w':World}{F F':Bool}{S S':Nat→Prop}(hF:F'=true→F=true)(hS:∀ b,S b→S' b)(hw:∀ b,S b→w'.heap[b]?=w.heap[b]?)(b:Nat)(hb:S b):
   ∀ (off:Nat) (ds:List D),qbX w F S b off ds→qbX w' F' S' b off ds
 | _,[],_=>by simp [qbX]
 | off,d::ds,h=>by
   simp only [qbX] at h ⊢
   obtain ⟨⟨v,hv,h1,hd⟩,h⟩:=h
   refine ⟨⟨v,?_,h1,RepD.mono hF hS hw d v hd⟩,qbX.mono hF hS hw b hb (off+1) ds h⟩
   rw [World.cell?_of_block (w:=w) (hw b hb)]
   exact hv
end
mutual
theorem Rep.mono {w w':World}{ρ ρ':Nat→Value}{S S':Bool→Nat→Prop}{U U':Nat→Prop}(hS:∀ f b,S f b→S' f b)(hw:∀ f b,S f b→w'.heap[b]?=w.heap[b]?)
   (hU:∀ l,U l→U' l) (hρ:∀ l,U l→ρ' l=ρ l):∀ (v:AV) (x:Value),Rep w ρ S U v x→Rep w' ρ' S' U' v x
 | .any,x,_=>by simp [Rep]
 | .imm v,x,h=>by simpa [Rep] using h
 | .dat f k es,x,h=>by
   simp only [Rep] at h ⊢
   exact RepD.mono id (hS f) (hw f) _ _ h
 | .agg cs,x,h=>by
   simp only [Rep] at h ⊢
   obtain ⟨xs,hx,h1,h⟩:=h
   exact ⟨xs,hx,h1,RepL.mono hS hw hU hρ cs xs h⟩
 | .ptr l off,x,h=>by
   simp only [Rep] at h ⊢
   obtain ⟨hl,b,hb,hx⟩:=h
   exact ⟨hU l hl,b,by rw [hρ l hl];exact hb,hx⟩
 | .elp f cs,x,h=>by
   simp only [Rep] at h ⊢
   obtain ⟨b,off,hx,hb,h⟩:=h
   exact ⟨b,off,hx,hS f b hb,qbX.mono id (hS f) (hw f) b hb off cs h⟩
 | .row l,x,h=>by
   simp only [Rep] at h ⊢
   exact ⟨hU l h.1,by rw [hρ l h.1];exact h.2.1,h.2.2⟩
 | .fn f caps,x,h=>by
   simp only [Rep] at h ⊢
   obtain ⟨xs,hx,h⟩:=h
   exact ⟨xs,hx,RepL.mono hS hw hU hρ caps xs h⟩
 | .map l,x,h=>by
   simp only [Rep] at h ⊢
   exact ⟨hU l h.1,by rw [hρ l h.1];exact h.2.1,h.2.2⟩
 | .tup vs,x,h=>by
   simp only [Rep] at h ⊢
   obtain ⟨xs,hx,h⟩:=h
   exact ⟨xs,hx,RepL.mono hS hw hU hρ vs xs h⟩
 | .vw l off n c,x,h=>by
   simp only [Rep] at h ⊢
   obtain ⟨hl,b,hb,hx⟩:=h
   exact ⟨hU l hl,b,by rw [hρ l hl];exact hb,hx⟩
theorem RepL.mono {w w':World}{ρ ρ':Nat→Value}{S S':Bool→Nat→Prop}{U U':Nat→Prop}(hS:∀ f b,S f b→S' f b)(hw:∀ f b,S f b→w'.heap[b]?=w.heap[b]?)
   (hU:∀ l,U l→U' l) (hρ:∀ l,U l→ρ' l=ρ l):∀ (vs:List AV) (xs:List Value),RepL w ρ S U vs xs→RepL w' ρ' S' U' vs xs
 | [],xs,h=>by simpa [RepL] using h
 | v::vs,xs,h=>by
   simp only [RepL] at h ⊢
   obtain ⟨y,ys,hx,h1,h2⟩:=h
   exact ⟨y,ys,hx,Rep.mono hS hw hU hρ v y h1,RepL.mono hS hw hU hρ vs ys h2⟩
end
theorem RepL.length {w:World}{ρ:Nat→Value}{S:Bool→Nat→Prop}{U:Nat→Prop}:∀ {vs:List AV} {xs:List Value},RepL w ρ S U vs xs→xs.length=vs.length
 | [],xs,h=>by simp only [RepL] at h;simp [h]
 | v::vs,xs,h=>by
   simp only [RepL] at h
   obtain ⟨y,ys,rfl,_,h⟩:=h
   simp [RepL.length h]
theorem RepL.get {w:World}{ρ:Nat→Value}{S:Bool→Nat→Prop}{U:Nat→Prop}:∀ {vs:List AV} {xs:List Value},RepL w ρ S U vs xs→∀ {i:Nat} {v:AV},vs[i]?=some v→∃ x,xs[i]?=some x∧Rep w ρ S U v x
 | [],xs,h,i,v,hv=>by simp at hv
 | a::vs,xs,h,i,v,hv=>by
   simp only [RepL] at h
   obtain ⟨y,ys,rfl,h1,h⟩:=h
   cases i with
   | zero=>simp only [List.getElem?_cons_zero,Option.some.injEq] at hv;subst hv;exact ⟨y,by simp,h1⟩
   | succ i=>simpa using RepL.get h (i:=i) (v:=v) (by simpa using hv)
theorem RepL.append {w:World}{ρ:Nat→Value}{S:Bool→Nat→Prop}{U:Nat→Prop}:∀ {vs us:List AV} {xs ys:List Value},RepL w ρ S U vs xs→RepL w ρ S U us ys→RepL w ρ S U (vs++us) (xs++ys)
 | [],us,xs,ys,h,k=>by simp only [RepL] at h;simpa [h] using k
 | v::vs,us,xs,ys,h,k=>by
   simp only [RepL] at h
   obtain ⟨y,zs,rfl,h1,h2⟩:=h
   simp only [List.cons_append,RepL]
   exact ⟨y,zs++ys,rfl,h1,RepL.append h2 k⟩
theorem RepL.drop {w:World}{ρ:Nat→Value}{S:Bool→Nat→Prop}{U:Nat→Prop}:∀ (n:Nat) {vs:List AV} {xs:List Value},RepL w ρ S U vs xs→RepL w ρ S U (vs.drop n) (xs.drop n)
 | 0,vs,xs,h=>by simpa using h
 | n+1,[],xs,h=>by simp only [RepL] at h;simp [h,RepL]
 | n+1,v::vs,xs,h=>by
   simp only [RepL] at h
   obtain ⟨y,zs,rfl,h1,h2⟩:=h
   simpa using RepL.drop n h2
theorem RepL.take {w:World}{ρ:Nat→Value}{S:Bool→Nat→Prop}{U:Nat→Prop}:∀ (n:Nat) {vs:List AV} {xs:List Value},RepL w ρ S U vs xs→RepL w ρ S U (vs.take n) (xs.take n)
 | 0,vs,xs,h=>by simp [RepL]
 | n+1,[],xs,h=>by simp only [RepL] at h;simp [h,RepL]
 | n+1,v::vs,xs,h=>by
   simp only [RepL] at h
   obtain ⟨y,zs,rfl,h1,h2⟩:=h
   simp only [List.take_succ_cons,RepL]
   exact ⟨y,zs.take n,rfl,h1,RepL.take n h2⟩
theorem RepL.set {w:World}{ρ:Nat→Value}{S:Bool→Nat→Prop}{U:Nat→Prop}:∀ (n:Nat) {vs:List AV} {xs:List Value} {v:AV} {x:Value},RepL w ρ S U vs xs→Rep w ρ S U v x→RepL w ρ S U (vs.set n v) (xs.set n x)
 | n,[],xs,v,x,h,_=>by simp only [RepL] at h;simp [h,RepL]
 | 0,u::vs,xs,v,x,h,k=>by
   simp only [RepL] at h
   obtain ⟨y,zs,rfl,h1,h2⟩:=h
   simp only [List.set_cons_zero,RepL]
   exact ⟨x,zs,rfl,k,h2⟩
 | n+1,u::vs,xs,v,x,h,k=>by
   simp only [RepL] at h
   obtain ⟨y,zs,rfl,h1,h2⟩:=h
   simp only [List.set_cons_succ,RepL]
   exact ⟨y,zs.set n x,rfl,h1,RepL.set n h2 k⟩
def D.av (f:Bool):D→AV
 | .imm v=>.imm v
 | .sl k es=>.dat f k es
def lift (f:Bool)(ds:List D):List AV:=ds.map (D.av f)
inductive Ob where
 | box (cs:List AV)
 | row (e:TypeId) (k:Nat) (cs:List AV)
 | rowd (e:TypeId) (k:Nat) (f:Bool) (es:List (List D))
 | mp (P:Program) (k:TypeId) (ks:List Lit)
 | dead
 | arr (e:TypeId) (k:Nat) (f:Bool) (es:List (Option (List D)))
 | mx (it:Bool) (P:Program) (k:TypeId) (kvs:List (Lit×List D)) (cur:Option (List D))
structure St where
 T:List (Nat×AV)
 O:List (Nat×Ob)
def lk:List (Nat×AV)→Nat→Option AV
 | [],_=>none
 | (s,v)::T,t=>bif Nat.beq s t then some v else lk T t
def ok:List (Nat×Ob)→Nat→Option Ob
 | [],_=>none
 | (s,v)::T,t=>bif Nat.beq s t then some v else ok T t
def St.U (σ:St)(l:Nat):Prop:=(ok σ.O l).isSome=true
def Ob.live:Ob→Prop
 | .dead=>False
 | _=>True
def R1 (v:Value):Option (DataW Unit×List MemPlace):=match v with
 | .bool b=>some (.lit (.bool b),[])
 | _=>none
def MapOk (w:World)(r:Nat)(P:Program)(k:TypeId)(ks:List Lit):Prop:=∃ (n:Nat) (D:DataW Unit),Maps.Keyed P k∧w.ownsMap P k R1 r n D∧n≤ks.length∧∀ l:Lit,(l∈ks→∀ z,D.atKey l z=.lit (.bool true))∧(l∉ks→∀ z,D.atKey l z=z)
theorem MapOk.of_block {r:Nat}{ks:List Lit}(hb:w'.heap[r]?=w.heap[r]?)(h:MapOk w r P k ks):MapOk w' r P k ks:=by
 obtain ⟨n,D,h1,⟨es,clock,h2,h3,h4,h5⟩,h6⟩:=h
 exact ⟨n,D,h1,⟨es,clock,by rw [hb];exact h2,h3,h4,h5⟩,h6⟩
def RvD (w:World)(F:Nat→Prop)(ds:List D)(v:Value):Prop:=((ds.length==1)=false∧∃ xs:List Value,v=.agg xs.toArray∧(∀ y∈xs,y.oneCell'=true)∧xs.length=ds.length∧∀ (i:Nat) (d:D) (x:Value),ds[i]?=some d→xs[i]?=some x→RepD w false F d x)∨∃ k es,ds=[.sl k es]∧RepD w false F (.sl k es) v
theorem RvD.mono (hF:∀ b,F b→F' b)(hw:∀ b,F b→w'.heap[b]?=w.heap[b]?){ds:List D}(h:RvD w F ds v):RvD w' F' ds v:=by
 rcases h with ⟨h0,xs,h1,h2,h3,h4⟩|⟨k,es,rfl,h⟩
 ·exact .inl ⟨h0,xs,h1,h2,h3,fun i d x hd hx=>(h4 i d x hd hx).mono id hF hw⟩
 ·exact .inr ⟨k,es,rfl,h.mono id hF hw⟩
def RV (v:Value):Option (DataW Value×List MemPlace):=some (.held v,[])
def qqH (w:World)(F:Nat→Prop)(P:Program)(k:TypeId)(kvs:List (Lit×List D))(c:List D)(v:Value):Prop:=
 ∃ (r:Nat) (st:Value) (kl:Lit) (ds0:List D) (rest:List (Lit×List D)) (ob:Obj),v=.map (some r)∧c=[.imm st]∧kvs=(kl,ds0)::rest∧Maps.Keyed P k∧(kvs.map (·.1)).Nodup∧w.heap[r]?=some ob∧
  ∀ (w2:World) (val:Value),w2.heap[r]?=some ob→∃ (w3:World) (n:Nat) (Dt:DataW Value),(∀ t,(Instr.entryStore t (.map (some r)) st val).run P w2=.ok () w3)∧w2.grownBy w3 (some r)∧w3.ownsMap P k RV r n Dt∧(∀ u,u∉kvs.map (·.1)→∀ z,Dt.atKey u z=z)∧(∀ z,Dt.atKey kl z=.held val)∧∀ p∈rest,∃ x,(∀ z,Dt.atKey p.1 z=.held x)∧RvD w F p.2 x
theorem qqH.mono (hF:∀ b,F b→F' b)(hw:∀ b,F b→w'.heap[b]?=w.heap[b]?){kvs:List (Lit×List D)}{c:List D}(hb:∀ b,blk v=some b→w'.heap[b]?=w.heap[b]?)(h:qqH w F P k kvs c v):qqH w' F' P k kvs c v:=by
 obtain ⟨r,st,kl,ds0,rest,ob,rfl,h1,h2,h3,h4,h5,h6⟩:=h
 refine ⟨r,st,kl,ds0,rest,ob,rfl,h1,h2,h3,h4,by rw [hb r rfl];exact h5,fun w2 val hw2=>?_⟩
 obtain ⟨w3,n,Dt,k1,k2,k3,k4,k5,k6⟩:=h6 w2 val hw2
 exact ⟨w3,n,Dt,k1,k2,k3,k4,k5,fun p hp=>by
  obtain ⟨x,e1,e2⟩:=k6 p hp
  exact ⟨x,e1,e2.mono hF hw⟩⟩
def MxOk (w:World)(F:Nat→Prop)(it:Bool)(P:Program)(k:TypeId)(kvs:List (Lit×List D))(cur:Option (List D))(v:Value):Prop:=
 if it=true then
  ∃ (r b n cnt:Nat) (Dt:DataW Value) (left:Lit→Bool),v=.pointer (some ⟨r,0,none⟩)∧F b∧Maps.Keyed P k∧w.ranges P k RV b r n Dt left cnt∧(kvs.map (·.1)).Nodup∧(∀ kl,left kl=true↔kl∈kvs.map (·.1))∧(∀ p∈kvs,∃ x,(∀ z,Dt.atKey p.1 z=.held x)∧RvD w F p.2 x)∧
   ∀ ds,cur=some ds→∃ key x:Value,RvD w F ds x∧∀ w2:World,w2.heap[r]?=w.heap[r]?→w2.heap[b]?=w.heap[b]?→(Instr.entry (.pointer (some ⟨r,0,none⟩))).run P w2=.ok (.tuple #[key,x]) w2
 else match cur with
  | some c=>qqH w F P k kvs c v
  | none=>∃ (r n:Nat) (Dt:DataW Value),v=.map (some r)∧Maps.Keyed P k∧w.ownsMap P k RV r n Dt∧n≤kvs.length∧(kvs.map (·.1)).Nodup∧(∀ kl,kl∉kvs.map (·.1)→∀ z,Dt.atKey kl z=z)∧∀ p∈kvs,∃ x,(∀ z,Dt.atKey p.1 z=.held x)∧RvD w F p.2 x
theorem MxOk.mono (hF:∀ b,F b→F' b)(hw:∀ b,F b→w'.heap[b]?=w.heap[b]?){it:Bool}{kvs:List (Lit×List D)}{cur:Option (List D)}(hb:∀ b,blk v=some b→w'.heap[b]?=w.heap[b]?)(h:MxOk w F it P k kvs cur v):MxOk w' F' it P k kvs cur v:=by
 cases it with
 | true=>
   simp only [MxOk,if_true] at h ⊢
   obtain ⟨r,b,n,cnt,Dt,left,rfl,h1,h2,h3,h4,h5,h6,h7⟩:=h
   have hr:=hb r E
   have hbb:=hw b h1
   refine ⟨r,b,n,cnt,Dt,left,rfl,hF b h1,h2,?_,h4,h5,fun p hp=>?_,fun ds hds=>?_⟩
   ·obtain ⟨es,clock,since,seen,c0,k1,k2,k3,k4,k5,k6⟩:=h3
    exact ⟨es,clock,since,seen,c0,by rw [hbb];exact k1,k2,k3,k4,by rw [hr];exact k5,k6⟩
   ·obtain ⟨x,k1,k2⟩:=h6 p hp
    exact ⟨x,k1,k2.mono hF hw⟩
   ·obtain ⟨key,x,k1,k2⟩:=h7 ds hds
    exact ⟨key,x,k1.mono hF hw,fun w2 e1 e2=>k2 w2 (e1.trans hr) (e2.trans hbb)⟩
 | false=>
   simp only [MxOk,Bool.false_eq_true,if_false] at h ⊢
   cases cur with
   | some c=>exact h.mono hF hw hb
   | none=>
   obtain ⟨r,n,Dt,rfl,h2,⟨es,clock,h3,h3'⟩,h4,h5,h6,h7⟩:=h
   exact ⟨r,n,Dt,rfl,h2,⟨es,clock,by rw [hb r rfl];exact h3,h3'⟩,h4,h5,h6,fun p hp=>by
    obtain ⟨x,k1,k2⟩:=h7 p hp
    exact ⟨x,k1,k2.mono hF hw⟩⟩
def ObOk (w:World)(ρ:Nat→Value)(S:Bool→Nat→Prop)(U:Nat→Prop)(l:Nat):Ob→Prop
 | .box cs=>∃ b ty,∃ xs:List Value,ρ l=.pointer (some ⟨b,0,none⟩)∧w.heap[b]?=some (.cells xs.toArray ty (0,0))∧(∀ y∈xs,y.oneCell'=true)∧RepL w ρ S U cs xs
 | .row e k cs=>∃ n,∃ xs:List Value,w.ownsRow 0 e k (ρ l) n xs∧(∀ y∈xs,y.oneCell'=true)∧RepL w ρ S U cs xs
 | .rowd e k f es=>(∀ d∈es,d.length=k)∧∃ xs:List Value,w.ownsRow 0 e k (ρ l) es.length xs∧(∀ y∈xs,y.oneCell'=true)∧RepL w ρ S U (lift f es.flatten) xs
 | .mp P k ks=>∃ r,ρ l=.map (some r)∧MapOk w r P k ks
 | .arr e k f es=>∃ b,∃ xs:List Value,ρ l=.slice (some ⟨b,0,none⟩) es.length es.length∧w.heap[b]?=some (.cells xs.toArray e (0,0))∧xs.length=es.length*k∧es.length≤maxLen∧(∀ (i:Nat) (d:List D),es[i]?=some (some d)→d.length=k∧RepL w ρ S U (lift f d) ((xs.drop (i*k)).take k)∧∀ y∈(xs.drop (i*k)).take k,y.oneCell'=true)
 | .dead=>True
 | .mx it P k kvs cur=>MxOk w (S false) it P k kvs cur (ρ l)
theorem qcl {base:Nat}{e:TypeId}{size n:Nat}{xs:List Value}(h:w.ownsRow base e size v n xs)(hb:∀ b,blk v=some b→w'.heap[b]?=w.heap[b]?):w'.ownsRow base e size v n xs:=by
 obtain ⟨h1,h2⟩:=h
 refine ⟨h1,?_⟩
 rcases h2 with h2|⟨g,cap,cur,hv,hg,hh,r⟩
 ·exact .inl h2
 ·exact .inr ⟨g,cap,cur,hv,hg,by rw [hb g (by simp [hv,blk])];exact hh,r⟩
theorem ObOk.mono {ρ':Nat→Value}{U U':Nat→Prop}{l:Nat}(hS:∀ f b,S f b→S' f b)(hw:∀ f b,S f b→w'.heap[b]?=w.heap[b]?)
   (hU:∀ l,U l→U' l) (hρ:∀ l,U l→ρ' l=ρ l) (hl:U l) {o:Ob} (hb:∀ b,blk (ρ l)=some b→w'.heap[b]?=w.heap[b]?) (h:ObOk w ρ S U l o):ObOk w' ρ' S' U' l o:=by
 cases o with
 | box cs=>
   obtain ⟨b,ty,xs,h1,h2,h3,h4⟩:=h
   exact ⟨b,ty,xs,by rw [hρ l hl,h1],by rw [hb b (by simp [h1,blk]),h2],h3,h4.mono hS hw hU hρ⟩
 | row e k cs=>
   obtain ⟨n,xs,h1,h2,h3⟩:=h
   exact ⟨n,xs,by rw [hρ l hl];exact qcl h1 hb,h2,h3.mono hS hw hU hρ⟩
 | rowd e k f es=>
   obtain ⟨h0,xs,h1,h2,h3⟩:=h
   exact ⟨h0,xs,by rw [hρ l hl];exact qcl h1 hb,h2,h3.mono hS hw hU hρ⟩
 | mp P k ks=>
   obtain ⟨r,h1,h2⟩:=h
   exact ⟨r,by rw [hρ l hl,h1],h2.of_block (hb r (by simp [h1,blk]))⟩
 | dead=>trivial
 | arr e k f es=>
   obtain ⟨b,xs,h1,h2,h3,h4,h5⟩:=h
   exact ⟨b,xs,by rw [hρ l hl,h1],by rw [hb b (by simp [h1,blk]),h2],h3,h4,fun i d hd=>⟨(h5 i d hd).1,(h5 i d hd).2.1.mono hS hw hU hρ,(h5 i d hd).2.2⟩⟩
 | mx it P k kvs cur=>
   simp only [ObOk] at h ⊢
   rw [hρ l hl]
   exact h.mono (hS false) (hw false) hb
structure Ctx where
 w0:World
 W:Nat→Prop
 R:Nat→Prop
 ρ0:Nat→Value
 L:Nat→Prop
 Q:Nat→Prop
 D:Prop:=False
 V:Nat→Prop:=fun _=>False
structure Far (W:Nat→Prop)(w w':World):Prop where
 os:w'.os=w.os
 tape:w'.tape=w.tape
 output:w'.output=w.output
 size:w.heap.size≤w'.heap.size
 block:∀ b,b<w.heap.size→¬ W b→w'.heap[b]?=w.heap[b]?
 dr:w.drawn≤w'.drawn
structure Far0 (W:Nat→Prop)(w w':World):Prop where
 os:w'.os=w.os
 tape:w'.tape=w.tape
 output:w'.output=w.output
 size:w.heap.size≤w'.heap.size
 block:∀ b,b<w.heap.size→¬ W b→w'.heap[b]?=w.heap[b]?
theorem Far.far0 (h:Far W w w'):Far0 W w w':=⟨h.os,h.tape,h.output,h.size,h.block⟩
def SpV (x y:Value):Prop:=y=x∨(∃ k a b,x=.int k a∧y=.int k b)∨(∃ a b,x=.string a∧y=.string b)∨(∃ A n c,x=.slice A n c∧y=.slice none 0 0)
theorem SpV.trans {x y z:Value}(h:SpV x y)(k:SpV y z):SpV x z:=by
 rcases h with rfl|⟨_,_,_,rfl,rfl⟩|⟨_,_,rfl,rfl⟩|⟨_,_,_,rfl,rfl⟩
 ·exact k
 ·rcases k with rfl|⟨_,_,_,h,rfl⟩|⟨_,_,h,_⟩|⟨_,_,_,h,_⟩
  ·exact .inr (.inl ⟨_,_,_,rfl,rfl⟩)
  ·cases h;exact .inr (.inl ⟨_,_,_,rfl,rfl⟩)
  ·cases h
  ·cases h
 ·rcases k with rfl|⟨_,_,_,h,_⟩|⟨_,_,h,rfl⟩|⟨_,_,_,h,_⟩
  ·exact .inr (.inr (.inl ⟨_,_,rfl,rfl⟩))
  ·cases h
  ·cases h;exact .inr (.inr (.inl ⟨_,_,rfl,rfl⟩))
  ·cases h
 ·rcases k with rfl|⟨_,_,_,h,_⟩|⟨_,_,h,_⟩|⟨_,_,_,_,rfl⟩
  ·exact .inr (.inr (.inr ⟨_,_,_,rfl,rfl⟩))
  ·cases h
  ·cases h
  ·exact .inr (.inr (.inr ⟨_,_,_,rfl,rfl⟩))
def SpB (o o':Option Obj):Prop:=o'=o∨∃ (cur cur':Array Value) (ty:TypeId) (fr:Nat×Nat),o=some (.cells cur ty fr)∧o'=some (.cells cur' ty fr)∧cur'.size=cur.size∧∀ (i:Nat) (x y:Value),cur[i]?=some x→cur'[i]?=some y→SpV x y
theorem SpB.trans {a b c:Option Obj}(h:SpB a b)(k:SpB b c):SpB a c:=by
 rcases h with rfl|⟨u,v,ty,fr,rfl,rfl,hs,h⟩
 ·exact k
 ·rcases k with rfl|⟨u',v',ty',fr',h1,rfl,hs',h'⟩
  ·exact .inr ⟨u,v,ty,fr,rfl,rfl,hs,h⟩
  ·cases h1
   refine .inr ⟨u,v',ty,fr,rfl,rfl,by omega,fun i x z hx hz=>?_⟩
   have hlt:i<v.size:=by have:=(Array.getElem?_eq_some_iff.1 hz).1;omega
   exact (h i x v[i] hx (Array.getElem?_eq_getElem hlt)).trans (h' i v[i] z (Array.getElem?_eq_getElem hlt) hz)
structure Fm (c:Ctx)(S:Bool→Nat→Prop)(w:World):Prop extends Far0 c.W c.w0 w where
 dr:c.D→c.w0.drawn≤w.drawn
 vq:∀ b,c.V b→c.Q b
 vs:∀ b,c.V b→∃ f,S f b
 sp:∀ b,c.V b→b<c.w0.heap.size→SpB c.w0.heap[b]? w.heap[b]?
 uf:∀ b,S true b→∃ cur ty,w.heap[b]?=some (.cells cur ty (0,0))
theorem Fm.mono {c:Ctx}(h:Fm c S w)(hS:∀ f b,S f b→∃ g,S' g b)(hu:∀ b,S' true b→S true b∨∃ cur ty,w.heap[b]?=some (.cells cur ty (0,0))):Fm c S' w:=
 ⟨h.toFar0,h.dr,h.vq,fun b hb=>let ⟨f,hf⟩:=h.vs b hb;hS f b hf,h.sp,fun b hb=>(hu b hb).elim (h.uf b) id⟩
theorem Fm.grow {c:Ctx}(h:Fm c S w)(k:Far0 W w w')(hd:c.D→w.drawn≤w'.drawn)(hS:∀ f b,S f b→∃ g,S' g b)(hu:∀ f b,S f b→w'.heap[b]?=w.heap[b]?)(hu2:∀ b,S' true b→S true b∨∃ cur ty,w'.heap[b]?=some (.cells cur ty (0,0)))(hW:∀ b,b<c.w0.heap.size→W b→c.W b):Fm c S' w':=
 ⟨⟨k.os.trans h.os,k.tape.trans h.tape,k.output.trans h.output,Nat.le_trans h.size k.size,fun b hb hw=>(k.block b (Nat.lt_of_lt_of_le hb h.size) (fun h'=>hw (hW b hb h'))).trans (h.block b hb hw)⟩,
  fun hD=>Nat.le_trans (h.dr hD) (hd hD),h.vq,fun b hb=>let ⟨f,hf⟩:=h.vs b hb;hS f b hf,fun b hb hl=>by obtain ⟨f,hf⟩:=h.vs b hb;rw [hu f b hf];exact h.sp b hb hl,
  fun b hb=>(hu2 b hb).elim (fun h2=>by rw [hu true b h2];exact h.uf b h2) id⟩
theorem Fm.start {c:Ctx}(hQ:∀ b,c.V b→c.Q b)(hV:∀ b,c.V b→∃ f,S f b)(hu:∀ b,S true b→∃ cur ty,c.w0.heap[b]?=some (.cells cur ty (0,0))):Fm c S c.w0:=
 ⟨⟨rfl,rfl,rfl,Nat.le_refl _,fun _ _ _=>rfl⟩,fun _=>Nat.le_refl _,hQ,hV,fun _ _ _=>.inl E,hu⟩
structure Conc (c:Ctx)(N:Nat)(σ:St)(a:Act)(w:World)(ρ:Nat→Value)(S:Bool→Nat→Prop):Prop where
 tm:a.tmps.size=N
 df:a.defers=[]
 T:∀ t v,lk σ.T t=some v→Rep w ρ S σ.U v (a.tmps.getD t undef)
 O:∀ l o,ok σ.O l=some o→ObOk w ρ S σ.U l o
 dj:∀ l l' o o' b,ok σ.O l=some o→ok σ.O l'=some o'→o.live→o'.live→blk (ρ l)=some b→blk (ρ l')=some b→l=l'
 dS:∀ l o b f,ok σ.O l=some o→o.live→blk (ρ l)=some b→¬ S f b
 wr:∀ l o b,ok σ.O l=some o→o.live→blk (ρ l)=some b→c.w0.heap.size≤b∨(c.L l∧c.W b)
 lt:∀ l o b,ok σ.O l=some o→o.live→blk (ρ l)=some b→b<w.heap.size
 SS:∀ b,¬ (S true b∧S false b)
 Sb:∀ f b,S f b→b<w.heap.size
 Sn:∀ b,S true b→c.Q b∨c.w0.heap.size≤b
 So:∀ b,S false b→c.R b∨c.w0.heap.size≤b
 lo:∀ l,c.L l→(ok σ.O l).isSome=true∧ρ l=c.ρ0 l
 fm:Fm c S w
def C (c:Ctx)(N:Nat)(σ:St)(a:Act)(w:World):Prop:=∃ ρ S,Conc c N σ a w ρ S
theorem Nat.beq_self_eq_true' (n:Nat):Nat.beq n n=true:=by simp
def wQ (c:Ctx)(N:Nat)(Q:Exit→St→Prop):Exit→Act→World→Prop:=fun e a w=>∃ σ,C c N σ a w∧Q e σ
def awp (P:Program)(c:Ctx)(N:Nat)(x:Code)(Q:Exit→St→Prop)(σ:St):Prop:=∀ a w,C c N σ a w→x.wp P (wQ c N Q) a w
def awps (P:Program)(c:Ctx)(N:Nat)(ops:Array Oper)(rest:List Oper)(Q:Exit→St→Prop)(σ:St):Prop:=∀ a w,C c N σ a w→wpList P ops (wQ c N Q) rest a w
def AOp (P:Program)(c:Ctx)(N:Nat)(o:Oper)(σ:St)(Φ:St→Prop):Prop:=∀ a w,C c N σ a w→o.wp P a w (fun a' w'=>∃ σ',C c N σ' a' w'∧Φ σ') (fun _ _ _=>False)
def qmn (K:St→Prop)(Q:Exit→St→Prop):Exit→St→Prop
 | .normal,σ=>K σ
 | e,σ=>Q e σ
def inQ (id:Nat)(Q:Exit→St→Prop):Exit→St→Prop
 | .exit id',σ=>bif Nat.beq id' id then Q .normal σ else Q (.exit id') σ
 | e,σ=>Q e σ
section
variable {P:Program}{c:Ctx}{N:Nat}{Q:Exit→St→Prop}{σ:St}
theorem qm9 {Q':Exit→St→Prop}(hq:∀ e σ,Q e σ→Q' e σ)(h:awp P c N x Q σ):awp P c N x Q' σ:=
 fun a w hc=>wp_mono (h a w hc) fun e a w ⟨σ,hσ,hQ⟩=>⟨σ,hσ,hq e σ hQ⟩
theorem qbI {σ':St}(hs:∀ a w,C c N σ a w→C c N σ' a w)(h:awp P c N x Q σ'):awp P c N x Q σ:=
 fun a w hc=>h a w (hs a w hc)
theorem qab {σ':St}(hs:∀ a w,C c N σ a w→C c N σ' a w)(h:awps P c N ops rest Q σ'):awps P c N ops rest Q σ:=
 fun a w hc=>h a w (hs a w hc)
theorem qr (h:Q .normal σ):awp P c N .skip Q σ:=fun _ _ hc=>wp_skip ⟨σ,hc,h⟩
theorem qn (h:Q .ret σ):awp P c N .ret Q σ:=fun _ _ hc=>wp_ret ⟨σ,hc,h⟩
theorem qV (h:Q (.exit id) σ):awp P c N (.exit id) Q σ:=fun _ _ hc=>wp_exit ⟨σ,hc,h⟩
theorem qd (h:awp P c N x (qmn (awp P c N y Q) Q) σ):awp P c N (.seq x y) Q σ:=
 fun a w hc=>wp_seq (wp_mono (h a w hc) fun e a' w' ⟨σ',hσ,hQ⟩=>by
  cases e with
  | normal=>exact hQ a' w' hσ
  | exit id=>exact ⟨σ',hσ,hQ⟩
  | goto l=>exact ⟨σ',hσ,hQ⟩
  | ret=>exact ⟨σ',hσ,hQ⟩
  | panic ch=>exact ⟨σ',hσ,hQ⟩
  | outgrown=>exact ⟨σ',hσ,hQ⟩)
theorem qv (h:awp P c N x (inQ id Q) σ):awp P c N (.block id x) Q σ:=
 fun a w hc=>wp_block (wp_mono (h a w hc) fun e a' w' ⟨σ',hσ,hQ⟩=>by
  cases e with
  | normal=>exact ⟨σ',hσ,hQ⟩
  | exit id'=>
    simp only [inQ] at hQ
    simp only [Exit.inBlock]
    by_cases he:id'=id
    ·rw [if_pos he];subst he
     simp only [Nat.beq_self_eq_true',cond_true] at hQ
     exact ⟨σ',hσ,hQ⟩
    ·rw [if_neg he]
     have hb:Nat.beq id' id=false:=by
      cases hb:Nat.beq id' id with
      | false=>rfl
      | true=>exact absurd (Nat.eq_of_beq_eq_true hb) he
     simp only [hb,cond_false] at hQ
     exact ⟨σ',hσ,hQ⟩
  | goto l=>exact ⟨σ',hσ,hQ⟩
  | ret=>exact ⟨σ',hσ,hQ⟩
  | panic ch=>exact ⟨σ',hσ,hQ⟩
  | outgrown=>exact ⟨σ',hσ,hQ⟩)
def ev (T:List (Nat×AV)):Operand→Option AV
 | .tmp t=>lk T t
 | .const v=>some (.imm v)
 | .func f=>some (.fn f [])
 | .global _=>none
theorem qaz (h:Conc c N σ a w ρ S){x:Operand}{v:AV}(hx:ev σ.T x=some v):Rep w ρ S σ.U v (a.eval x):=by
 cases x with
 | tmp t=>exact h.T t v hx
 | const k=>simp only [ev,Option.some.injEq] at hx;subst hx;simp [Rep,Act.eval]
 | func f=>simp only [ev,Option.some.injEq] at hx;subst hx;simp [Rep,RepL,Act.eval]
 | global g=>simp [ev] at hx
theorem qo {x:Operand}(hx:ev σ.T x=some (.imm (.bool b)))(ht:b=true→awp P c N y Q σ)(hf:b=false→awp P c N z Q σ):awp P c N (.cond x y z) Q σ:=by
 rintro a w ⟨ρ,S,hc⟩
 have h:=qaz hc hx
 simp only [Rep] at h
 exact wp_cond_split h (fun hb=>ht hb a w ⟨ρ,S,hc⟩) (fun hb=>hf hb a w ⟨ρ,S,hc⟩)
theorem qa2 {x:Operand}(hx:ev σ.T x=some (.imm (.bool true)))(h:awp P c N y Q σ):awp P c N (.cond x y z) Q σ:=qo hx (fun _=>h) (fun h=>by cases h)
theorem qaA {x:Operand}(hx:ev σ.T x=some (.imm (.bool false)))(h:awp P c N z Q σ):awp P c N (.cond x y z) Q σ:=qo hx (fun h=>by cases h) (fun _=>h)
theorem qqz (I:Nat→St→Prop)(n:Nat)(h0:I n σ)(hr:∀ n σ,I n σ→awp P c N x (qmn (fun σ'=>∃ m,m<n∧I m σ') Q) σ):awp P c N (.loop x) Q σ:=by
 intro a w hc
 refine wp_loop_rounds (n+1) ?_
 have key:∀ n m σ a w,m≤n→I m σ→C c N σ a w→Code.rounds P x (wQ c N Q) (n+1) a w:=by
  intro n
  induction n with
  | zero=>
    intro m σ a w hm hI hc
    refine wp_mono (hr m σ hI a w hc) fun e a' w' ⟨σ',hσ,hQ⟩=>?_
    cases e with
    | normal=>obtain ⟨k,hk,_⟩:=hQ;omega
    | exit id=>exact ⟨σ',hσ,hQ⟩
    | goto l=>exact ⟨σ',hσ,hQ⟩
    | ret=>exact ⟨σ',hσ,hQ⟩
    | panic ch=>exact ⟨σ',hσ,hQ⟩
    | outgrown=>exact ⟨σ',hσ,hQ⟩
  | succ n ih=>
    intro m σ a w hm hI hc
    refine wp_mono (hr m σ hI a w hc) fun e a' w' ⟨σ',hσ,hQ⟩=>?_
    cases e with
    | normal=>obtain ⟨k,hk,hI'⟩:=hQ;exact ih k σ' a' w' (by omega) hI' hσ
    | exit id=>exact ⟨σ',hσ,hQ⟩
    | goto l=>exact ⟨σ',hσ,hQ⟩
    | ret=>exact ⟨σ',hσ,hQ⟩
    | panic ch=>exact ⟨σ',hσ,hQ⟩
    | outgrown=>exact ⟨σ',hσ,hQ⟩
 exact key n n σ a w (Nat.le_refl _) h0 hc
def Sub (c:Ctx)(N:Nat)(σ σ':St):Prop:=∀ a w,C c N σ a w→C c N σ' a w
theorem qac (n:Nat)(p:Nat→Prop)(F:Nat→St)(hp:p 0)(h0:Sub c N σ (F 0))(hr:∀ k,k≤n→p k→awp P c N x (qmn (fun σ'=>k<n∧p (k+1)∧Sub c N σ' (F (k+1))) Q) (F k)):awp P c N (.loop x) Q σ:=by
 refine qqz (fun m σ'=>∃ k,k≤n∧p k∧m=n-k∧Sub c N σ' (F k)) n ⟨0,Nat.zero_le _,hp,rfl,h0⟩ ?_
 rintro m σ' ⟨k,hk,hpk,rfl,hs⟩
 refine qbI hs (qm9 ?_ (hr k hk hpk))
 intro e σ2 hQ
 cases e with
 | normal=>exact ⟨n-(k+1),by have:=hQ.1;omega,k+1,by have:=hQ.1;omega,hQ.2.1,rfl,hQ.2.2⟩
 | exit id=>exact hQ
 | goto l=>exact hQ
 | ret=>exact hQ
 | panic ch=>exact hQ
 | outgrown=>exact hQ
theorem qci (n:Nat)(p:Nat→α→Prop)(F:Nat→α→St)(a0:α)(hp:p 0 a0)(h0:Sub c N σ (F 0 a0))(hr:∀ k a,k≤n→p k a→awp P c N x (qmn (fun σ'=>k<n∧∃ a',p (k+1) a'∧Sub c N σ' (F (k+1) a')) Q) (F k a)):awp P c N (.loop x) Q σ:=by
 refine qqz (fun m σ'=>∃ k a,k≤n∧p k a∧m=n-k∧Sub c N σ' (F k a)) n ⟨0,a0,Nat.zero_le _,hp,rfl,h0⟩ ?_
 rintro m σ' ⟨k,a,hk,hpk,rfl,hs⟩
 refine qbI hs (qm9 ?_ (hr k a hk hpk))
 intro e σ2 hQ
 cases e with
 | normal=>obtain ⟨h1,a',h2,h3⟩:=hQ;exact ⟨n-(k+1),by omega,k+1,a',by omega,h2,rfl,h3⟩
 | exit id=>exact hQ
 | goto l=>exact hQ
 | ret=>exact hQ
 | panic ch=>exact hQ
 | outgrown=>exact hQ
theorem qb {l:List Oper}(h:awps P c N l.toArray l Q σ):awp P c N (.region id l.toArray false) Q σ:=
 fun a w hc=>wp_region_lit (h a w hc)
theorem qc (h:Q .normal σ):awps P c N ops [] Q σ:=fun _ _ hc=>wpList_nil ⟨σ,hc,h⟩
theorem Oper.wp_weaken {K K':Act→World→Prop}{Q':Exit→Act→World→Prop}(h:∀ a w,K a w→K' a w)
   (hh:o.wp P a w K (fun _ _ _=>False)):o.wp P a w K' Q':=by
 unfold Oper.wp at*
 generalize (execOp a.eval o).run P w=r at*
 cases r with
 | ok n w'=>
   cases n<;>simp only [Oper.upon] at hh ⊢<;>
    first
     | exact h _ _ hh
     | exact Calls.mono hh (fun e w'' he=>by cases e<;>first|exact h _ _ he|exact he.elim|(obtain ⟨_,_,hf⟩:=he;exact hf.elim))
     | exact Rows.mono hh (fun _ _ he=>h _ _ he)
     | exact hh.elim
 | halt x w'=>cases x<;>simp only [Oper.upon] at hh ⊢
theorem qcF (hg:o.guard=none)(h:AOp P c N o σ (fun σ'=>awps P c N ops rest Q σ')):awps P c N ops (o::rest) Q σ:=
 fun a w hc=>wpList_plain hg fun _ hK=>Oper.wp_weaken (fun a' w' ⟨σ',hσ,hR⟩=>hK a' w' (hR a' w' hσ)) (h a w hc)
def St.put (σ:St)(dst:Option Nat)(v:AV):St:=
 match dst with
 | some d=>⟨(d,v)::σ.T,σ.O⟩
 | none=>σ
def St.add (σ:St)(dst:Option Nat)(v:AV)(new:List (Nat×Ob)):St:=
 match dst with
 | some d=>⟨(d,v)::σ.T,new++σ.O⟩
 | none=>⟨σ.T,new++σ.O⟩
theorem Nat.beq_eq_false {s:Nat}(h:¬ s=t):Nat.beq s t=false:=by
 cases hb:Nat.beq s t with
 | false=>rfl
 | true=>exact absurd (Nat.eq_of_beq_eq_true hb) h
theorem qcm (s t:Nat)(v:AV)(T:List (Nat×AV)):lk ((s,v)::T) t=if s=t then some v else lk T t:=by
 simp only [lk]
 by_cases h:s=t
 ·subst h;simp
 ·have:Nat.beq s t=false:=Nat.beq_eq_false h
  rw [this,if_neg h];rfl
theorem qa0 (s t:Nat)(v:Ob)(T:List (Nat×Ob)):ok ((s,v)::T) t=if s=t then some v else ok T t:=by
 simp only [ok]
 by_cases h:s=t
 ·subst h;simp
 ·have:Nat.beq s t=false:=Nat.beq_eq_false h
  rw [this,if_neg h];rfl
theorem getD_put (a:Act)(d t:Nat)(x:Value)(hd:d<a.tmps.size):(a.put (some d) x).tmps.getD t undef=if d=t then x else a.tmps.getD t undef:=by
 simp only [Act.put]
 by_cases h:d=t
 ·subst h
  simp [Array.getD_eq_getD_getElem?,hd]
 ·simp [Array.getD_eq_getD_getElem?,Array.getElem?_setIfInBounds,h]
theorem Conc.put (h:Conc c N σ a w ρ S){dst:Option Nat}{v:AV}{x:Value}(hd:∀ d,dst=some d→d<N)(hv:Rep w ρ S σ.U v x):Conc c N (σ.put dst v) (a.put dst x) w ρ S:=by
 cases dst with
 | none=>exact h
 | some d=>
   have hdN:d<a.tmps.size:=by rw [h.tm];exact hd d E
   refine { h with tm:=?_,df:=h.df,T:=?_ }
   ·simp [Act.put,h.tm]
   ·intro t u ht
    simp only [St.put,qcm] at ht
    rw [getD_put a d t x hdN]
    split at ht
    ·rename_i he;rw [if_pos he];simp only [Option.some.injEq] at ht;subst ht;exact hv
    ·rename_i he;rw [if_neg he];exact h.T t u ht
theorem qsD {b':Bool}(hg:o.guard=some (j,b))(hj:(ops[j]?).bind (·.dst)=some t)(ht:lk σ.T t=some (.imm (.bool b')))(hb:b'≠b)(hd:∀ d,o.dst=some d→d<N)(htN:t<N)
  (h:awps P c N ops rest Q (σ.put o.dst (.imm undef))):awps P c N ops (o::rest) Q σ:=by
 rintro a w ⟨ρ,S,hc⟩
 have h1:=hc.T t _ ht
 simp only [Rep] at h1
 have h2:a.tmps[t]?=some (.bool b'):=by
  have hlt:t<a.tmps.size:=by rw [hc.tm];exact htN
  rw [Array.getD_eq_getD_getElem?] at h1
  rw [Array.getElem?_eq_getElem hlt] at h1 ⊢
  simpa using h1
 have hy:yielded ops a.tmps j=some b':=by
  simp [yielded,hj,h2]
 unfold wpList
 rw [if_neg]
 ·exact h _ _ ⟨ρ,S,hc.put hd (by simp [Rep])⟩
 ·simp only [Region.wanted,hg,hy]
  simpa using hb
theorem qrh (hg:o.guard=some (j,b))(hj:(ops[j]?).bind (·.dst)=some t)(ht:lk σ.T t=some (.imm undef))(hd:∀ d,o.dst=some d→d<N)(htN:t<N)
  (h:awps P c N ops rest Q (σ.put o.dst (.imm undef))):awps P c N ops (o::rest) Q σ:=by
 rintro a w ⟨ρ,S,hc⟩
 have h1:=hc.T t _ ht
 simp only [Rep] at h1
 have h2:a.tmps[t]?=some undef:=by
  have hlt:t<a.tmps.size:=by rw [hc.tm];exact htN
  rw [Array.getD_eq_getD_getElem?] at h1
  rw [Array.getElem?_eq_getElem hlt] at h1 ⊢
  simpa using h1
 have hy:yielded ops a.tmps j=none:=by
  simp [yielded,hj,h2,undef]
 unfold wpList
 rw [if_neg]
 ·exact h _ _ ⟨ρ,S,hc.put hd (by simp [Rep])⟩
 ·simp only [Region.wanted,hg,hy]
  simp
theorem qor (hg:o.guard=some (j,b))(hj:(ops[j]?).bind (·.dst)=some t)(ht:lk σ.T t=some (.imm (.bool b)))(htN:t<N)
  (h:AOp P c N o σ (fun σ'=>awps P c N ops rest Q σ')):awps P c N ops (o::rest) Q σ:=by
 rintro a w ⟨ρ,S,hc⟩
 have h1:=hc.T t _ ht
 simp only [Rep] at h1
 have h2:a.tmps[t]?=some (.bool b):=by
  have hlt:t<a.tmps.size:=by rw [hc.tm];exact htN
  rw [Array.getD_eq_getD_getElem?] at h1
  rw [Array.getElem?_eq_getElem hlt] at h1 ⊢
  simpa using h1
 have hy:yielded ops a.tmps j=some b:=by
  simp [yielded,hj,h2]
 unfold wpList
 rw [if_pos]
 ·exact .inl (Oper.wp_weaken (fun a' w' ⟨σ',hσ,hR⟩=>hR a' w' hσ) (h a w ⟨ρ,S,hc⟩))
 ·simp [Region.wanted,hg,hy]
end
end Go.Proofs.YtpgceiijoedppaaGreat
namespace Go.Proofs.YtpgceiijoedppaaGreat
open Go
variable {S:Bool→Nat→Prop}{b f:Bool}{d i k l n off:Nat}{e s t:TypeId}{need:List Nat}{ops:Array Oper}{q:IntKind}{rest:List Oper}{v:Value}{w:World}{x y:Operand}{xs:List Value}{ρ:Nat→Value}
def Stp (P:Program)(c:Ctx)(N:Nat)(o:Oper)(σ:St)(need:List Nat)(v:AV)(new:List (Nat×Ob)):Prop:=
 (∀ d,o.dst=some d→d<N)→∀ σ':St,(∀ x∈o.op.operands,∀ u,ev σ.T x=some u→ev σ'.T x=some u)→(∀ l∈need,∀ ob,ok σ.O l=some ob→ok σ'.O l=some ob)→(∀ p∈new,ok σ'.O p.1=none)→
  AOp P c N o σ' (fun σ2=>σ2=σ'.add o.dst v new)
section
variable {P:Program}{c:Ctx}{N:Nat}{Q:Exit→St→Prop}{σ:St}{o:Oper}
theorem qk9 {T:List (Nat×AV)}{O:List (Nat×Ob)}{v:AV}(hg:o.guard=none)(hd:o.dst=some d)(hN:d<N)
  (h:Stp P c N o ⟨T,O⟩ need v []) (K:awps P c N ops rest Q ⟨(d,v)::T,O⟩):awps P c N ops (o::rest) Q ⟨T,O⟩:=by
 refine qcF hg fun a w hc=>wp_mono' ?_ (h (by intro e he;rw [hd] at he;cases he;exact hN) ⟨T,O⟩ (fun _ _ _ h=>h) (fun _ _ _ h=>h) (by simp) a w hc)
 rintro a w ⟨σ2,h2,rfl⟩
 refine ⟨_,h2,?_⟩
 simpa [St.add,hd] using K
where
 wp_mono' {o:Oper} {a:Act} {w:World} {K K':Act→World→Prop} (h:∀ a w,K a w→K' a w) (hh:o.wp P a w K (fun _ _ _=>False)):o.wp P a w K' (fun _ _ _=>False):=Oper.wp_mono h hh
theorem qt {T:List (Nat×AV)}{O:List (Nat×Ob)}{v:AV}{ob:Ob}(hg:o.guard=none)(hd:o.dst=some d)(hN:d<N)
  (h:Stp P c N o ⟨T,O⟩ need v [(l,ob)]) (hl:ok O l=none) (K:awps P c N ops rest Q ⟨(d,v)::T,(l,ob)::O⟩):awps P c N ops (o::rest) Q ⟨T,O⟩:=by
 refine qcF hg fun a w hc=>Oper.wp_mono ?_ (h (by intro e he;rw [hd] at he;cases he;exact hN) ⟨T,O⟩ (fun _ _ _ h=>h) (fun _ _ _ h=>h) (by simpa using hl) a w hc)
 rintro a w ⟨σ2,h2,rfl⟩
 refine ⟨_,h2,?_⟩
 simpa [St.add,hd] using K
theorem qaN {v:AV} (h:∀ σ':St,(∀ x∈o.op.operands,∀ u,ev σ.T x=some u→ev σ'.T x=some u)→(∀ l∈need,∀ ob,ok σ.O l=some ob→ok σ'.O l=some ob)→∀ a w ρ S,Conc c N σ' a w ρ S→
  ∃ x,(execOp a.eval o).run P w=.ok (.value x) w∧Rep w ρ S σ'.U v x):Stp P c N o σ need v []:=by
 rintro hd σ' hx hl-a w ⟨ρ,S,hc⟩
 obtain ⟨x,hr,hv⟩:=h σ' hx hl a w ρ S hc
 unfold Oper.wp
 rw [hr]
 refine ⟨_,⟨ρ,S,hc.put hd hv⟩,?_⟩
 cases o.dst<;>simp [St.put,St.add]
theorem ql {v:AV}(ho:o.op=.move x∨o.op=.assign x)(hx:ev σ.T x=some v):Stp P c N o σ [] v []:=by
 refine qaN fun σ' h1 _ a w ρ S hc=>⟨a.eval x,?_,?_⟩
 ·rcases ho with ho|ho<;>simp only [execOp,ho]<;>rfl
 ·exact qaz hc (h1 x (by rcases ho with ho|ho<;>simp [ho,Op.operands]) v hx)
theorem qk {z:Operand}{v:AV}(ho:o.op=.pick x y z)(hx:ev σ.T x=some (.imm (.bool b)))(hv:(if b then ev σ.T y else ev σ.T z)=some v):Stp P c N o σ [] v []:=by
 refine qaN fun σ' h1 _ a w ρ S hc=>⟨a.eval (if b then y else z),?_,?_⟩
 ·have hx':=qaz hc (h1 x (by simp [ho,Op.operands]) _ hx)
  simp only [Rep] at hx'
  simp only [execOp,ho,hx']
  cases b<;>rfl
 ·cases b
  ·exact qaz hc (h1 z (by simp [ho,Op.operands]) v (by simpa using hv))
  ·exact qaz hc (h1 y (by simp [ho,Op.operands]) v (by simpa using hv))
def aggB:TypeDesc→Bool
 | .struct _|.array _ _=>true
 | _=>false
def tfB (P:Program)(t:TypeId)(b:Bool)(n:Nat):Bool:=
 match P.underlying t,P.info? t with
 | some d,some i=>(aggB d==b)&&(i.size==n)&&(b || n==1)
 | _,_=>false
def foB (P:Program)(s:TypeId)(i k:Nat):Bool:=
 match P.underlying s with
 | some (.struct fs)=>match fs[i]? with
   | some f=>(f.offset==k)&&(match P.info? f.type with|some j=>j.size != 0|none=>false)
   | none=>false
 | _=>false
def slB (P:Program)(t e:TypeId)(k:Nat):Bool:=
 match P.underlying t,P.info? e with
 | some (.slice e'),some i=>(e'==e)&&(i.size==k)
 | _,_=>false
theorem qmo (h:tfB P t b n=true):∃ d i,P.underlying t=some d∧P.info? t=some i∧aggB d=b∧i.size=n∧(b=true∨n=1):=by
 unfold tfB at h
 split at h
 ·rename_i d i h1 h2
  simp only [Bool.and_eq_true,Bool.or_eq_true,beq_iff_eq] at h
  exact ⟨d,i,h1,h2,h.1.1,h.1.2,h.2⟩
 ·simp at h
theorem qiL {d:TypeDesc}(hd:P.underlying t=some d)(w:World):(isAgg t).run P w=.ok (aggB d) w:=by
 unfold isAgg
 rw [Sem.run_bind,run_underlying hd w]
 cases d<;>rfl
theorem qcq (b off j:Nat):(⟨b,off,none⟩:Addr).add j=⟨b,off+j,none⟩:=by unfold Addr.add;split<;>simp_all
def mkV (b:Bool)(xs:List Value):Value:=if b then .agg xs.toArray else xs.headD undef
theorem qcz (ht:tfB P t b n=true)(w:World)(g off:Nat)(xs:List Value)(hl:xs.length=n)(h:∀ j v,xs[j]?=some v→w.cell? ⟨g,off+j,none⟩=some v):
   (loadVar t ⟨g,off,none⟩).run P w=.ok (mkV b xs) w:=by
 obtain ⟨d,i,h1,h2,h3,h4,h5⟩:=qmo ht
 have hl':(loadCells ⟨g,off,none⟩ xs.length).run P w=.ok xs.toArray w:=run_loadCells_list (P:=P) w ⟨g,off,none⟩ xs (fun j v hv=>by rw [qcq];exact h j v hv)
 cases b with
 | true=>simp [loadVar,Sem.run_bind,qiL h1,h3,sizeOf,typeInfo,h2,h4,← hl,hl',mkV]
 | false=>
   have hn:n=1:=by simpa using h5
   match xs,hl with
   | [x],_=>
     have hc:=h 0 x (by simp)
     simp only [Nat.add_zero] at hc
     simp only [loadVar,Sem.run_bind,qiL h1,h3,load,mkV]
     simp [Sem.run,hc]
   | [],hl=>simp at hl;omega
   | _::_::_,hl=>simp at hl;omega
def mkA (b:Bool)(n:Nat)(cs:List AV):Option AV:=
 if b then (if cs.length=n then some (.agg cs) else none) else cs.head?
theorem qje {U:Nat→Prop}{cs:List AV}{v:AV}(h:mkA b n cs=some v)(h1:∀ y∈xs,y.oneCell'=true)(hr:RepL w ρ S U cs xs):Rep w ρ S U v (mkV b xs):=by
 cases b with
 | true=>
   simp only [mkA,if_true] at h
   split at h
   ·simp only [Option.some.injEq] at h;subst h
    simp only [Rep,mkV,if_true]
    exact ⟨xs,rfl,h1,hr⟩
   ·simp at h
 | false=>
   simp only [mkA] at h
   cases cs with
   | nil=>simp at h
   | cons u us=>
     simp only [List.head?_cons,Bool.false_eq_true,if_false,Option.some.injEq] at h;subst h
     simp only [RepL] at hr
     obtain ⟨y,ys,rfl,hy,_⟩:=hr
     simpa [mkV] using hy
theorem qdh {b:Nat}{ty:TypeId}{fr:Nat×Nat}(h:w.heap[b]?=some (.cells xs.toArray ty fr))(j:Nat):w.cell? ⟨b,j,none⟩=xs[j]?:=by
 simp [World.cell?,h]
theorem qhu {α:Type}{xs:List α}{j:Nat}{v:α}(h:((xs.drop off).take n)[j]?=some v):xs[off+j]?=some v:=by
 rw [List.getElem?_take] at h
 split at h
 ·rwa [List.getElem?_drop] at h
 ·simp at h
theorem qgC {a:Act}(hc:Conc c N σ a w ρ S)(hx:ev σ.T x=some (.ptr l off)):∃ b,blk (ρ l)=some b∧a.eval x=.pointer (some ⟨b,off,none⟩):=by
 have h:=qaz hc hx
 simp only [Rep] at h
 exact h.2
theorem qfY {b:Nat}(h:w.ownsRow 0 e k v n xs)(hb:blk v=some b):∃ cap cur,v=.slice (some ⟨b,0,none⟩) n cap∧w.heap[b]?=some (.cells cur e (0,0))∧n≤cap∧cap≤maxLen∧cur.size=cap*k∧cur.toList.take (n*k)=xs∧xs.length=n*k:=by
 obtain ⟨h1,h2⟩:=h
 rcases h2 with ⟨rfl,_⟩|⟨g,cap,cur,rfl,_,hh,h3,h4,h5,h6⟩
 ·simp [blk] at hb
 ·simp only [blk,Option.some.injEq] at hb
  subst hb
  exact ⟨cap,cur,rfl,hh,h3,h4,h5,h6,h1⟩
def Ob.cells:Ob→List AV
 | .box cs=>cs
 | .row _ _ cs=>cs
 | .rowd _ _ f es=>lift f es.flatten
 | _=>[]
theorem qb8 {b:Nat}(h1:w.ownsRow 0 e k v n xs)(hb:blk v=some b)(j:Nat)(u:Value)(hv:xs[j]?=some u):w.cell? ⟨b,j,none⟩=some u:=by
 obtain ⟨cap,cur,_,hh,_,_,_,h6,_⟩:=qfY h1 hb
 have:w.heap[b]?=some (.cells cur.toList.toArray e (0,0)):=by simpa using hh
 rw [qdh this]
 rw [← h6,List.getElem?_take] at hv
 split at hv
 ·exact hv
 ·simp at hv
theorem ob_cells {U:Nat→Prop}{b:Nat}{ob:Ob}(h:ObOk w ρ S U l ob)(hb:blk (ρ l)=some b)(hm:ob.cells≠[]):
   ∃ xs:List Value,RepL w ρ S U ob.cells xs∧(∀ y∈xs,y.oneCell'=true)∧∀ (j:Nat) (v:Value),xs[j]?=some v→w.cell? ⟨b,j,none⟩=some v:=by
 cases ob with
 | box cs=>
   obtain ⟨b',ty,xs,h1,h2,h3,h4⟩:=h
   rw [h1] at hb;simp only [blk,Option.some.injEq] at hb;subst hb
   exact ⟨xs,h4,h3,fun j v hv=>by rw [qdh h2];exact hv⟩
 | row e k cs=>
   obtain ⟨n,xs,h1,h2,h3⟩:=h
   exact ⟨xs,h3,h2,qb8 h1 hb⟩
 | rowd e k f es=>
   obtain ⟨h0,xs,h1,h2,h3⟩:=h
   exact ⟨xs,h3,h2,qb8 h1 hb⟩
 | mp P k ks=>simp [Ob.cells] at hm
 | dead=>simp [Ob.cells] at hm
 | arr e k f es=>simp [Ob.cells] at hm
 | mx it P k kvs cur=>simp [Ob.cells] at hm
theorem qjt {ob:Ob}{v:AV}(ho:o.op=.load t x)(ht:tfB P t b n=true)(hx:ev σ.T x=some (.ptr l off))(hl:ok σ.O l=some ob)
  (hn:off+n≤ob.cells.length) (h0:0<n) (hv:mkA b n ((ob.cells.drop off).take n)=some v):Stp P c N o σ [l] v []:=by
 refine qaN fun σ' h1 h2 a w ρ S hc=>?_
 obtain ⟨g,hg,hx'⟩:=qgC hc (h1 x (by simp [ho,Op.operands]) _ hx)
 have hob:=hc.O l ob (h2 l (by simp) _ hl)
 obtain ⟨xs,hr,h3,hcell⟩:=ob_cells hob hg (by intro h;rw [h] at hn;simp at hn;omega)
 have hlen:=hr.length
 refine ⟨mkV b ((xs.drop off).take n),?_,qje hv (fun y hy=>h3 y (List.mem_of_mem_drop (List.mem_of_mem_take hy))) ((hr.drop off).take n)⟩
 simp only [execOp,ho,hx',Instr.loadAt,Instr.sureAddr]
 have:=qcz (P:=P) ht w g off ((xs.drop off).take n) (by simp;omega) (fun j v hv=>hcell _ _ (qhu hv))
 simp [Sem.run_bind,this]
theorem qf0 {w:World}{ρ:Nat→Value}{S:Bool→Nat→Prop}{U:Nat→Prop}{f:Bool}{b:Nat}:∀ {off:Nat} {ds:List D},qbX w f (S f) b off ds→
   ∃ xs:List Value,RepL w ρ S U (lift f ds) xs∧(∀ y∈xs,y.oneCell'=true)∧∀ (j:Nat) (v:Value),xs[j]?=some v→w.cell? ⟨b,off+j,none⟩=some v
 | off,[],_=>⟨[],by simp [lift,RepL],by simp,by simp⟩
 | off,d::ds,h=>by
   simp only [qbX] at h
   obtain ⟨⟨v,hv,h1,hd⟩,h⟩:=h
   obtain ⟨xs,h2,h3,h4⟩:=qf0 (ρ:=ρ) (U:=U) h
   refine ⟨v::xs,?_,?_,?_⟩
   ·simp only [lift,List.map_cons,RepL]
    refine ⟨v,xs,rfl,?_,h2⟩
    cases d with
    | imm u=>simpa [D.av,Rep,RepD] using hd
    | sl k es=>simpa [D.av,Rep] using hd
   ·intro y hy
    rcases List.mem_cons.1 hy with rfl|hy
    ·exact h1
    ·exact h3 y hy
   ·intro j u hu
    cases j with
    | zero=>simp only [List.getElem?_cons_zero,Option.some.injEq] at hu;subst hu;simpa using hv
    | succ j=>have:=h4 j u (by simpa using hu);rw [show off+(j+1)=off+1+j from by omega];exact this
theorem qg1 {ds:List D}{v:AV}(ho:o.op=.load t x)(ht:tfB P t b n=true)(hx:ev σ.T x=some (.elp f ds))
  (hn:n≤ds.length) (hv:mkA b n (lift f (ds.take n))=some v):Stp P c N o σ [] v []:=by
 refine qaN fun σ' h1 h2 a w ρ S hc=>?_
 have h:=qaz hc (h1 x (by simp [ho,Op.operands]) _ hx)
 simp only [Rep] at h
 obtain ⟨g,off,hx',hS,hcs⟩:=h
 obtain ⟨xs,hr,h3,hcell⟩:=qf0 (ρ:=ρ) (U:=σ'.U) hcs
 have hlen:=hr.length
 simp only [lift,List.length_map] at hlen
 refine ⟨mkV b (xs.take n),?_,qje hv (fun y hy=>h3 y (List.mem_of_mem_take hy)) (by have:=hr.take n;simpa [lift,List.map_take] using this)⟩
 simp only [execOp,ho,hx',Instr.loadAt,Instr.sureAddr]
 have:=qcz (P:=P) ht w g off (xs.take n) (by simp;omega) (fun j v hv=>by
  rw [List.getElem?_take] at hv
  split at hv
  ·exact hcell _ _ hv
  ·simp at hv)
 simp [Sem.run_bind,this]
theorem fo_spec (h:foB P s i k=true):∃ fs f j,P.underlying s=some (.struct fs)∧fs[i]?=some f∧f.offset=k∧P.info? f.type=some j∧j.size≠0:=by
 unfold foB at h
 split at h
 ·rename_i fs h1
  split at h
  ·rename_i f h2
   simp only [Bool.and_eq_true,beq_iff_eq] at h
   obtain ⟨h3,h4⟩:=h
   split at h4
   ·rename_i j h5;exact ⟨fs,f,j,h1,h2,h3,h5,by simpa using h4⟩
   ·simp at h4
  ·simp at h
 ·simp at h
theorem qkt (h:foB P s i k=true)(w:World)(b off:Nat):(Instr.fieldAt s (.pointer (some ⟨b,off,none⟩)) i).run P w=.ok (.pointer (some ⟨b,off+k,none⟩)) w:=by
 obtain ⟨fs,f,j,h1,h2,h3,h4,h5⟩:=fo_spec h
 simp only [Instr.fieldAt,Sem.run_bind,run_underlying h1 w,Result.andThen_ok,h2,Instr.sureAddr,Sem.run_pure,fieldPlace,sizeOf,run_typeInfo w h4,if_neg h5,qcq,h3]
theorem qe (ho:o.op=.fieldAddr s x i)(hf:foB P s i k=true)(hx:ev σ.T x=some (.ptr l off)):Stp P c N o σ [] (.ptr l (off+k)) []:=by
 refine qaN fun σ' h1 h2 a w ρ S hc=>?_
 have h:=qaz hc (h1 x (by simp [ho,Op.operands]) _ hx)
 simp only [Rep] at h
 obtain ⟨hU,g,hg,hx'⟩:=h
 refine ⟨.pointer (some ⟨g,off+k,none⟩),?_,by simp only [Rep];exact ⟨hU,g,hg,rfl⟩⟩
 simp only [execOp,ho,hx']
 simp [Sem.run_bind,qkt hf]
theorem qlT {w:World}{F:Bool}{S:Nat→Prop}{b:Nat}:∀ (k:Nat) {off:Nat} {ds:List D},qbX w F S b off ds→qbX w F S b (off+k) (ds.drop k)
 | 0,off,ds,h=>by simpa using h
 | k+1,off,[],h=>by simp [qbX]
 | k+1,off,d::ds,h=>by
   simp only [qbX] at h
   have:=qlT k h.2
   rw [show off+(k+1)=off+1+k from by omega]
   simpa using this
theorem qJ {ds:List D}(ho:o.op=.fieldAddr s x i)(hf:foB P s i k=true)(hx:ev σ.T x=some (.elp f ds)):Stp P c N o σ [] (.elp f (ds.drop k)) []:=by
 refine qaN fun σ' h1 h2 a w ρ S hc=>?_
 have h:=qaz hc (h1 x (by simp [ho,Op.operands]) _ hx)
 simp only [Rep] at h
 obtain ⟨g,off,hx',hS,hcs⟩:=h
 refine ⟨.pointer (some ⟨g,off+k,none⟩),?_,by simp only [Rep];exact ⟨g,off+k,rfl,hS,qlT k hcs⟩⟩
 simp only [execOp,ho,hx']
 simp [Sem.run_bind,qkt hf]
theorem qnE {w:World}{F:Bool}{S:Nat→Prop}{b k:Nat}:∀ {off:Nat} {es:List (List D)} {i:Nat} {e:List D},qcK w F S b k off es→es[i]?=some e→e.length=k∧qbX w F S b (off+i*k) e
 | off,[],i,e,h,hi=>by simp at hi
 | off,u::es,0,e,h,hi=>by
   simp only [List.getElem?_cons_zero,Option.some.injEq] at hi;subst hi
   simp only [qcK] at h
   simpa using h.1
 | off,u::es,i+1,e,h,hi=>by
   simp only [qcK] at h
   have:=qnE h.2 (i:=i) (e:=e) (by simpa using hi)
   rw [show off+(i+1)*k=off+k+i*k from by rw [Nat.add_mul];omega]
   exact this
theorem qcL (h:slB P t e k=true):∃ i,P.underlying t=some (.slice e)∧P.info? e=some i∧i.size=k:=by
 unfold slB at h
 split at h
 ·rename_i e' i h1 h2
  simp only [Bool.and_eq_true,beq_iff_eq] at h
  obtain ⟨rfl,h3⟩:=h
  exact ⟨i,h1,h2,h3⟩
 ·simp at h
theorem qeF (h:slB P t e k=true)(w:World)(b off n cap:Nat)(q:IntKind)(i:Int)(h0:0≤i)(h1:i<n):
  (Instr.indexAt t (.slice (some ⟨b,off,none⟩) n cap) (.int q i)).run P w=.ok (.pointer (some ⟨b,off+i.toNat*k,none⟩)) w:=by
 obtain ⟨j,h2,h3,h4⟩:=qcL h
 simp only [Instr.indexAt,Sem.run_bind,asIntOf,Sem.run_pure,Result.andThen_ok,run_underlying h2 w]
 rw [if_pos ⟨h0,h1⟩]
 simp [Sem.run_bind,sizeOf,run_typeInfo w h3,h4,qcq]
theorem qp {es:List (List D)}{i:Int}{ds:List D}(ho:o.op=.indexAddr t x y)(ht:slB P t e k=true)(hx:ev σ.T x=some (.dat f k es))(hy:ev σ.T y=some (.imm (.int q i)))
  (h0:0≤i) (he:es[i.toNat]?=some ds):Stp P c N o σ [] (.elp f ds) []:=by
 refine qaN fun σ' h1 h2 a w ρ S hc=>?_
 have h:=qaz hc (h1 x (by simp [ho,Op.operands]) _ hx)
 have h':=qaz hc (h1 y (by simp [ho,Op.operands]) _ hy)
 simp only [Rep,RepD] at h h'
 obtain ⟨A,n,cap,hx',hn,_,_,hr⟩:=h
 have hlt:i.toNat<es.length:=by
  rcases List.getElem?_eq_some_iff.1 he with ⟨h,_⟩;exact h
 rcases hr with hr|⟨b,off,rfl,hS,_,hr⟩
 ·omega
 ·obtain ⟨_,hcs⟩:=qnE hr he
  refine ⟨.pointer (some ⟨b,off+i.toNat*k,none⟩),?_,by simp only [Rep];exact ⟨b,_,rfl,hS,hcs⟩⟩
  simp only [execOp,ho,hx',h']
  simp [Sem.run_bind,qeF ht w b off n cap q i h0 (by omega)]
theorem qqM {cs:List AV}{i:Int}(ho:o.op=.indexAddr t x y)(ht:slB P t e k=true)(hx:ev σ.T x=some (.row l))(hl:ok σ.O l=some (.row e k cs))(hy:ev σ.T y=some (.imm (.int q i)))
  (h0:0≤i) (he:i.toNat*k+k≤cs.length) (hk:0<k):Stp P c N o σ [l] (.ptr l (i.toNat*k)) []:=by
 refine qaN fun σ' h1 h2 a w ρ S hc=>?_
 have h:=qaz hc (h1 x (by simp [ho,Op.operands]) _ hx)
 have h':=qaz hc (h1 y (by simp [ho,Op.operands]) _ hy)
 simp only [Rep] at h h'
 obtain ⟨n,xs,h3,h4,h5⟩:=hc.O l _ (h2 l (by simp) _ hl)
 have hlen:=h5.length
 obtain ⟨hU,hx',_⟩:=h
 obtain ⟨h6,h7⟩:=h3
 rcases h7 with ⟨_,rfl⟩|⟨g,cap,cur,hv,_⟩
 ·rw [Nat.zero_mul] at h6;omega
 ·have hin:i<(n:Int):=by
   have:i.toNat*k+k≤n*k:=by omega
   have:(i.toNat+1)*k≤n*k:=by rw [Nat.add_mul];omega
   have:=Nat.le_of_mul_le_mul_right this hk
   omega
  refine ⟨.pointer (some ⟨g,i.toNat*k,none⟩),?_,by simp only [Rep];exact ⟨hU,g,by rw [hv];rfl,rfl⟩⟩
  rw [hv] at hx'
  simp only [execOp,ho,hx',h']
  simp [Sem.run_bind,qeF ht w g 0 n cap q i h0 hin]
theorem qcQ {es:List (List D)}{i:Int}(ho:o.op=.indexAddr t x y)(ht:slB P t e k=true)(hx:ev σ.T x=some (.row l))(hl:ok σ.O l=some (.rowd e k f es))(hy:ev σ.T y=some (.imm (.int q i)))
  (h0:0≤i) (he:i.toNat<es.length):Stp P c N o σ [l] (.ptr l (i.toNat*k)) []:=by
 refine qaN fun σ' h1 h2 a w ρ S hc=>?_
 have h:=qaz hc (h1 x (by simp [ho,Op.operands]) _ hx)
 have h':=qaz hc (h1 y (by simp [ho,Op.operands]) _ hy)
 simp only [Rep] at h h'
 obtain ⟨_,xs,h3,h4,h5⟩:=hc.O l _ (h2 l (by simp) _ hl)
 obtain ⟨hU,hx',_⟩:=h
 obtain ⟨h6,h7⟩:=h3
 rcases h7 with ⟨_,h8⟩|⟨g,cap,cur,hv,_⟩
 ·omega
 ·refine ⟨.pointer (some ⟨g,i.toNat*k,none⟩),?_,by simp only [Rep];exact ⟨hU,g,by rw [hv];rfl,rfl⟩⟩
  rw [hv] at hx'
  simp only [execOp,ho,hx',h']
  simp [Sem.run_bind,qeF ht w g 0 es.length cap q i h0 (by omega)]
theorem qkW {α:Type}{k:Nat}:∀ {es:List (List α)},(∀ d∈es,d.length=k)→∀ (i:Nat) {ds:List α},es[i]?=some ds→∀ j n,j+n≤k→((es.flatten.drop (i*k+j)).take n)=(ds.drop j).take n
 | [],_,i,ds,h,_,_,_=>by simp at h
 | u::es,hk,0,ds,h,j,n,hj=>by
   simp only [List.getElem?_cons_zero,Option.some.injEq] at h;subst h
   have hu:u.length=k:=hk u (by simp)
   simp only [Nat.zero_mul,Nat.zero_add,List.flatten_cons]
   rw [List.drop_append_of_le_length (by omega),List.take_append_of_le_length (by simp;omega)]
 | u::es,hk,i+1,ds,h,j,n,hj=>by
   have hu:u.length=k:=hk u (by simp)
   have:=qkW (es:=es) (fun d hd=>hk d (by simp [hd])) i (ds:=ds) (by simpa using h) j n hj
   rw [← this,List.flatten_cons,show (i+1)*k+j=u.length+(i*k+j) from by rw [hu,Nat.add_mul];omega,List.drop_append,List.drop_eq_nil_of_le (by omega),List.nil_append,Nat.add_sub_cancel_left]
theorem qmv {j:Nat}{es:List (List D)}{ds:List D}{v:AV}(ho:o.op=.load t x)(ht:tfB P t b n=true)(hx:ev σ.T x=some (.ptr l off))(hl:ok σ.O l=some (.rowd e k f es))
  (hoff:off=i*k+j) (he:es[i]?=some ds) (hn:j+n≤k) (h0:0<n) (hv:mkA b n (lift f ((ds.drop j).take n))=some v):Stp P c N o σ [l] v []:=by
 refine qaN fun σ' h1 h2 a w ρ S hc=>?_
 obtain ⟨g,hg,hx'⟩:=qgC hc (h1 x (by simp [ho,Op.operands]) _ hx)
 obtain ⟨h0',xs,h3,h4,h5⟩:=hc.O l _ (h2 l (by simp) _ hl)
 have hlen:=h5.length
 have hcells:=qb8 h3 hg
 have hi:i<es.length:=by rcases List.getElem?_eq_some_iff.1 he with ⟨h,_⟩;exact h
 have hxl:xs.length=es.length*k:=h3.1
 have hik:i*k+k≤es.length*k:=by
  have:=Nat.mul_le_mul_right k (show i+1≤es.length by omega)
  rw [Nat.add_mul] at this;omega
 have hr:=(h5.drop off).take n
 have hcut:((lift f es.flatten).drop off).take n=lift f ((ds.drop j).take n):=by
  simp only [lift,← List.map_drop,← List.map_take]
  rw [hoff,qkW h0' i he j n hn]
 rw [hcut] at hr
 refine ⟨mkV b ((xs.drop off).take n),?_,qje hv (fun y hy=>h4 y (List.mem_of_mem_drop (List.mem_of_mem_take hy))) hr⟩
 simp only [execOp,ho,hx',Instr.loadAt,Instr.sureAddr]
 have:=qcz (P:=P) ht w g off ((xs.drop off).take n) (by simp;omega) (fun j v hv=>hcells _ _ (qhu hv))
 simp [Sem.run_bind,this]
theorem qS {vs:List AV}{v:AV}(ho:o.op=.extract x i)(hx:ev σ.T x=some (.tup vs))(hv:vs[i]?=some v):Stp P c N o σ [] v []:=by
 refine qaN fun σ' h1 h2 a w ρ S hc=>?_
 have h:=qaz hc (h1 x (by simp [ho,Op.operands]) _ hx)
 simp only [Rep] at h
 obtain ⟨xs,hx',hr⟩:=h
 obtain ⟨y,hy,hv'⟩:=hr.get hv
 refine ⟨y,?_,hv'⟩
 simp only [execOp,ho,hx',Instr.extract]
 simp [Sem.run_bind,hy]
theorem qda (ho:o.op=.nilCheck x)(hx:ev σ.T x=some (.ptr l off)):Stp P c N o σ [] (.ptr l off) []:=by
 refine qaN fun σ' h1 h2 a w ρ S hc=>?_
 have h:=qaz hc (h1 x (by simp [ho,Op.operands]) _ hx)
 have h':=h
 simp only [Rep] at h
 obtain ⟨hU,g,hg,hx'⟩:=h
 refine ⟨a.eval x,?_,h'⟩
 simp only [execOp,ho,hx']
 rfl
theorem qj6 {a:Act}{w:World}{ρ:Nat→Value}{S:Bool→Nat→Prop}{σ σ':St}(hc:Conc c N σ' a w ρ S):∀ {xs:List Operand} {vs:List AV},(∀ x∈xs,∀ u,ev σ.T x=some u→ev σ'.T x=some u)→xs.map (ev σ.T)=vs.map some→RepL w ρ S σ'.U vs (xs.map a.eval)
 | [],[],_,_=>by simp [RepL]
 | [],_::_,_,h=>by simp at h
 | _::_,[],_,h=>by simp at h
 | x::xs,v::vs,h1,h=>by
   simp only [List.map_cons,List.cons.injEq] at h
   simp only [List.map_cons,RepL]
   exact ⟨_,_,rfl,qaz hc (h1 x (by simp) v h.1),qj6 hc (fun y hy=>h1 y (by simp [hy])) h.2⟩
theorem qdz {g:FuncId}{xs:List Operand}{vs:List AV}(ho:o.op=.makeFunc (.func g) #[] xs.toArray)(hx:xs.map (ev σ.T)=vs.map some):Stp P c N o σ [] (.fn g vs) []:=by
 refine qaN fun σ' h1 h2 a w ρ S hc=>?_;refine ⟨.func (.func g) #[] (xs.map a.eval).toArray,?_,?_⟩
 ·simp only [execOp,ho,Instr.makeFunc]
  simp
 ·simp only [Rep]
  exact ⟨_,rfl,qj6 hc (fun x hx=>h1 x (by simp [ho,Op.operands,hx])) hx⟩
end
end Go.Proofs.YtpgceiijoedppaaGreat