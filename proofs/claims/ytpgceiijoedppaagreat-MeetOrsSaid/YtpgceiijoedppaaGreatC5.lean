/- Part 5 of the proof: SymM, SymN, SymO, SymP, SymQ, Dat. -/
import Derived.Test.YtpgceiijoedppaaGreatC4
import Derived.Laws.Strings
import Derived.Lib.Bytealg
import Derived.StringKeys
import Derived.Carry
import Derived.Maps.OwnSet
import GoSem.ClaimJoined
import Derived.SizedLaws
import Derived.ChangeArms
set_option linter.unusedVariables false
set_option linter.unusedSimpArgs false
namespace Go.Proofs.YtpgceiijoedppaaGreat
open Go
variable {A O Oin new:List (Nat×Ob)}{B b b' m:Bool}{K:St→Prop}{a:ByteArray}{d i id j n t:Nat}{l os rest:List Oper}{ms:List MS}{need old:List Nat}{ob:Ob}{ops:Array Oper}{x:Operand}{Φ:List MS→St→Prop}
theorem toList_inj {b:ByteArray}:a.toList=b.toList↔a=b:=by
 constructor
 ·intro h
  cases a with|mk a=>cases b with|mk b=>
  simp only [Go.ByteArray.toList_eq] at h
  congr 1
  exact Array.toList_inj.1 h
 ·rintro rfl;rfl
theorem qip {b:ByteArray}:((a.toList==b.toList)=true)↔a=b:=by rw [beq_iff_eq,toList_inj]
theorem qrF {b:ByteArray}:((a.toList==b.toList)=false)↔¬ a=b:=by rw [beq_eq_false_iff_ne,ne_eq,toList_inj]
theorem cqA:(∀ {a b:ByteArray},((a.toList==b.toList)=true)↔a=b)∧(∀ {a b:ByteArray},((a.toList==b.toList)=false)↔¬ a=b):=⟨qip,qrF⟩
theorem cqB:(∀ (p:Prop) [Decidable p],(decide p=true)=p)∧(∀ (p:Prop) [Decidable p],(decide p=false)↔¬ p)∧(∀ b:Bool,((!b)=true)=(b=false))∧(∀ b:Bool,((!b)=false)=(b=true))∧(∀ {a b:Int},(¬ a<b)↔(b≤a))∧(∀ {a b:Int},(¬ a≤b)↔(b<a))∧(∀ {α:Type} [BEq α] [LawfulBEq α] {a b:α},((a==b)=true)↔a=b)∧(∀ {α:Type} [BEq α] [LawfulBEq α] {a b:α},((a==b)=false)↔a≠b)∧(∀ {α:Type} [BEq α] [LawfulBEq α] {a b:α},((a != b)=true)↔a≠b)∧(∀ {α:Type} [BEq α] [LawfulBEq α] {a b:α},((a != b)=false)↔a=b)∧(∀ {α:Type} (a b:α),(a≠b)=¬ (a=b)):=⟨fun _=>decide_eq_true_eq,fun _=>decide_eq_false_iff_not,Bool.not_eq_true',Bool.not_eq_false',Int.not_lt,Int.not_le,beq_iff_eq,beq_eq_false_iff_ne,bne_iff_ne,bne_eq_false_iff_eq,fun _ _=>rfl⟩
theorem qfV {s:ByteArray}:s.size=0↔s=⟨#[]⟩:=by
 cases s with|mk s=>
 simp only [ByteArray.size]
 constructor
 ·intro h;congr 1;exact Array.eq_empty_of_size_eq_zero h
 ·rintro ⟨⟩;rfl
section
variable {P:Program}{c:Ctx}{N:Nat}{Q:Exit→St→Prop}{σ:St}{o:Oper}
theorem hdS (h:o.dst=some d)(k:d<N):∀ e,o.dst=some e→e<N:=fun e he=>by rw [h] at he;cases he;exact k
theorem hdN (h:o.dst=none):∀ e,o.dst=some e→e<N:=fun e he=>by rw [h] at he;cases he
def newB (O:List (Nat×Ob))(ms:List MS):Bool:=ms.all fun m=>m.new.all fun p=>m.old.contains p.1 || (ok O p.1).isNone
theorem qr7 (h:newB O ms=true):∀ m∈ms,∀ p∈m.new,p.1∉m.old→ok O p.1=none:=fun m hm p hp ho=>by
 have:=List.all_eq_true.1 (List.all_eq_true.1 h m hm) p hp
 simp only [Bool.or_eq_true,List.contains_iff_mem] at this
 rcases this with h|h
 ·exact absurd h ho
 ·simpa using h
inductive qpu (P:Program)(c:Ctx)(N:Nat)(ops:Array Oper):Nat→List Oper→St→List MS→St→Prop where
 | nil {l:List Oper} {σ:St}:qpu P c N ops 0 l σ [] σ
 | cons {n:Nat} {o:Oper} {os:List Oper} {σ σ':St} {m:MS} {ms:List MS} (hd:∀ d,o.dst=some d→d<N) (h:qlf P c N ops o σ m) (r:qpu P c N ops n os (σ.add o.dst m.v m.new) ms σ'):qpu P c N ops (n+1) (o::os) σ (m::ms) σ'
theorem qpu.run:∀ {n:Nat} {l:List Oper} {σ σ':St} {ms:List MS},qpu P c N ops n l σ ms σ'→MRun P c N ops (l.take n) σ ms σ'
 | _,_,_,_,_,.nil=>by simpa using MRun.nil
 | _,_,_,_,_,.cons hd h r=>by rw [List.take_succ_cons];exact MRun.cons hd h r.run
theorem qsF (n:Nat){σ':St}(hm:P.follows .mixedOrders=true)(hn:Nat.ble n l.length=true)(hC:chkO l.toArray n=true)(hE:chkE l.toArray=true)(hS:chkS l.toArray n=true)
  (hr:qpu P c N l.toArray n l σ ms σ') (hN:chkN l.toArray ms=true) (hnew:newB σ.O ms=true) (K:awps P c N l.toArray (l.drop n) Q σ'):awp P c N (.region id l.toArray true) Q σ:=
 qsE n hm hn hC hE hS hr.run hN (qr7 hnew) K
def MGo (P:Program)(c:Ctx)(N:Nat)(ops:Array Oper)(n:Nat)(l:List Oper)(σ:St)(Φ:List MS→St→Prop):Prop:=∃ ms σ',qpu P c N ops n l σ ms σ'∧Φ ms σ'
theorem qaq (h:Φ [] σ):MGo P c N ops 0 l σ Φ:=⟨_,_,.nil,h⟩
theorem qf {T:List (Nat×AV)}{v:AV}(hd:o.dst=some d)(hN:d<N)(h:qlf P c N ops o ⟨T,O⟩ ⟨need,v,[],[]⟩)
  (K:MGo P c N ops n os ⟨(d,v)::T,O⟩ (fun ms σ'=>Φ (⟨need,v,[],[]⟩::ms) σ')):MGo P c N ops (n+1) (o::os) ⟨T,O⟩ Φ:=by
 obtain ⟨ms,σ',hr,hΦ⟩:=K
 exact ⟨_,_,.cons (hdS hd hN) h (by simpa [St.add,hd] using hr),hΦ⟩
theorem zU {T:List (Nat×AV)}{v:AV}(hd:o.dst=some d)(h:Stp P c N o ⟨T,O⟩ need v [])(K:MGo P c N ops n os ⟨(d,v)::T,O⟩ (fun ms σ'=>Φ (⟨need,v,[],[]⟩::ms) σ'))(hN:d<N:=by decide)(hg:o.guard=none:=by exact rfl):MGo P c N ops (n+1) (o::os) ⟨T,O⟩ Φ:=qf hd hN (.run hg h) K
theorem zV {T:List (Nat×AV)}(hd:o.dst=some d)(K:MGo P c N ops n os ⟨(d,.imm undef)::T,O⟩ (fun ms σ'=>Φ (⟨[],.imm undef,[],[]⟩::ms) σ'))(hN:d<N:=by decide)(hg:o.guard=some (j,b):=by exact rfl)(hj:(ops[j]?).bind (·.dst)=some t:=by exact rfl)(ht:lk T t=some (.imm (.bool b')):=by exact rfl)(hb:b'≠b:=by decide)(htN:t<N:=by decide):MGo P c N ops (n+1) (o::os) ⟨T,O⟩ Φ:=qf hd hN (.skip hg hj ht hb htN) K
theorem zQ {T:List (Nat×AV)}{v:AV}(hd:o.dst=some d)(h:Stp P c N o ⟨T,O⟩ need v [])(K:MGo P c N ops n os ⟨(d,v)::T,O⟩ (fun ms σ'=>Φ (⟨need,v,[],[]⟩::ms) σ'))(hN:d<N:=by decide)(hg:o.guard=some (j,b):=by exact rfl)(hj:(ops[j]?).bind (·.dst)=some t:=by exact rfl)(ht:lk T t=some (.imm (.bool b)):=by exact rfl)(htN:t<N:=by decide):MGo P c N ops (n+1) (o::os) ⟨T,O⟩ Φ:=qf hd hN (.want hg hj ht htN h) K
theorem qhr {l:Nat}{T:List (Nat×AV)}{v:AV}(hd:o.dst=some d)(hN:d<N)(h:qlf P c N ops o ⟨T,O⟩ ⟨need,v,[(l,ob)],[]⟩)
  (K:MGo P c N ops n os ⟨(d,v)::T,(l,ob)::O⟩ (fun ms σ'=>Φ (⟨need,v,[(l,ob)],[]⟩::ms) σ')):MGo P c N ops (n+1) (o::os) ⟨T,O⟩ Φ:=by
 obtain ⟨ms,σ',hr,hΦ⟩:=K
 exact ⟨_,_,.cons (hdS hd hN) h (by simpa [St.add,hd] using hr),hΦ⟩
theorem qqN {y:Operand}{t:TypeId}{k l off:Nat}{ob':Ob}{v:AV}{vs:List AV}(ho:o.op=.store t x y)(hd:o.dst=none)(ht:tfB P t b k=true)(hx:ev σ.T x=some (.ptr l off))(hl:ok σ.O l=some ob)
  (hy:ev σ.T y=some v) (hv:v.cellsOf=some vs) (hn:vs.length=k) (hoff:Nat.ble (off+k) ob.cells.length=true) (h0:Nat.ble 1 k=true) (hob:(match ob with|.rowd _ _ _ _=>false|_=>true)=true) (hw:ob.with (qau ob.cells off vs)=ob'):StpU P c N o σ [l] .any [(l,ob')] [l]:=by
 subst hw
 intro _ σ1 h1 h2 _
 have:=qot (P:=P) (c:=c) (N:=N) ho hd ht (h1 x (by simp [ho,Op.operands]) _ hx) (h2 l (by simp) _ hl) (h1 y (by simp [ho,Op.operands]) _ hy) hv hn (Nat.le_of_ble_eq_true hoff) (Nat.le_of_ble_eq_true h0) (by rintro e k f es rfl;cases hob)
 intro a w hc
 refine Oper.wp_mono ?_ (this a w hc)
 rintro a w ⟨σ2,h3,rfl⟩
 exact ⟨_,h3,by simp [St.add,hd]⟩
theorem qgO {T:List (Nat×AV)}{v:AV}(hg:o.guard=none)(hd:o.dst=some d)(hN:d<N)(h:StpU P c N o ⟨T,O⟩ need v new old)
  (K:MGo P c N ops n os ⟨(d,v)::T,new++O⟩ (fun ms σ'=>Φ (⟨need,v,new,old⟩::ms) σ')):MGo P c N ops (n+1) (o::os) ⟨T,O⟩ Φ:=by
 obtain ⟨ms,σ',hr,hΦ⟩:=K
 exact ⟨_,_,.cons (hdS hd hN) (.upd hg h) (by simpa [St.add,hd] using hr),hΦ⟩
theorem MGo_un {T:List (Nat×AV)}{v:AV}(hg:o.guard=none)(hd:o.dst=none)(h:StpU P c N o ⟨T,O⟩ need v new old)
  (K:MGo P c N ops n os ⟨T,new++O⟩ (fun ms σ'=>Φ (⟨need,v,new,old⟩::ms) σ')):MGo P c N ops (n+1) (o::os) ⟨T,O⟩ Φ:=by
 obtain ⟨ms,σ',hr,hΦ⟩:=K
 exact ⟨_,_,.cons (hdN hd) (.upd hg h) (by simpa [St.add,hd] using hr),hΦ⟩
def newU (O:List (Nat×Ob))(new:List (Nat×Ob))(old:List Nat):Bool:=new.all fun p=>old.contains p.1 || (ok O p.1).isNone
theorem qr6 (h:newU O new old=true):∀ p∈new,p.1∉old→ok O p.1=none:=fun p hp ho=>by
 have:=List.all_eq_true.1 h p hp
 simp only [Bool.or_eq_true,List.contains_iff_mem] at this
 rcases this with h|h
 ·exact absurd h ho
 ·simpa using h
theorem qbW {T:List (Nat×AV)}{v:AV}(hg:o.guard=none)(hd:o.dst=some d)(hN:d<N)
  (h:StpU P c N o ⟨T,O⟩ need v new old) (hnew:newU O new old=true) (K:awps P c N ops rest Q ⟨(d,v)::T,new++O⟩):awps P c N ops (o::rest) Q ⟨T,O⟩:=by
 refine qcF hg fun a w hc=>Oper.wp_mono ?_ (h (hdS hd hN) ⟨T,O⟩ (fun _ _ _ h=>h) (fun _ _ _ h=>h) (qr6 hnew) a w hc)
 rintro a w ⟨σ2,h2,rfl⟩
 refine ⟨_,h2,?_⟩
 simpa [St.add,hd] using K
theorem qX (n:Nat)(hm:P.follows .mixedOrders=true)(hn:Nat.ble n l.length=true)(hC:chkO l.toArray n=true)(hE:chkE l.toArray=true)(hS:chkS l.toArray n=true)
  (h:MGo P c N l.toArray n l σ (fun ms σ'=>chkN l.toArray ms=true∧newB σ.O ms=true∧awps P c N l.toArray (l.drop n) Q σ')):awp P c N (.region id l.toArray true) Q σ:=by
 obtain ⟨ms,σ',hr,h1,h2,h3⟩:=h
 exact qsF n hm hn hC hE hS hr h1 h2 h3
theorem qm (h:Q .ret σ):qmn K Q .ret σ:=h
theorem qq (h:Q (.exit i) σ):qmn K Q (.exit i) σ:=h
theorem qa (h:K σ):qmn K Q .normal σ:=h
theorem qP (h:Q .ret σ):inQ i Q .ret σ:=h
theorem qR (h:Q .normal σ):inQ i Q .normal σ:=h
theorem qad (h:Q .normal σ):inQ i Q (.exit i) σ:=by simpa [inQ] using h
theorem SubO.left {B:List (Nat×Ob)}:SubO A (A++B):=fun l v h=>by rw [qeN,h]
theorem SubO.trans {B D:List (Nat×Ob)}(h:SubO A B)(k:SubO B D):SubO A D:=fun l v e=>k l v (h l v e)
theorem qdN:∀ {A B:List (Nat×Ob)} (_:A.map (·.1)=B.map (·.1)) (l:Nat),inD A l=inD B l
 | [],[],_,l=>rfl
 | [],b::B,h,l=>by simp at h
 | a::A,[],h,l=>by simp at h
 | a::A,b::B,h,l=>by
   obtain ⟨s,v⟩:=a;obtain ⟨s',v'⟩:=b
   simp only [List.map_cons,List.cons.injEq] at h
   have ih:=qdN h.2 l
   simp only [inD,qa0] at ih ⊢
   rw [h.1]
   split
   ·rfl
   ·exact ih
theorem LO {O':List (Nat×Ob)}(hL:∀ l,c.L l↔inD O l=true)(h:O'.map (·.1)=O.map (·.1)):∀ l,c.L l→inD O' l=true:=fun l hl=>by rw [qdN h];exact (hL l).1 hl
inductive qrm (B:Bool)(O:List (Nat×Ob))(p:Nat→Bool):List (Nat×Ob)→Prop where
 | nil:qrm B O p []
 | cons {t:Nat} {ob ob':Ob} {L:List (Nat×Ob)} (h:ok O t=some ob) (hv:ob.live) (e:ob'=ob.cv B O p) (r:qrm B O p L):qrm B O p ((t,ob')::L)
theorem qrm.get {p:Nat→Bool}:∀ {L:List (Nat×Ob)},qrm B O p L→∀ {l:Nat} {ob':Ob},ok L l=some ob'→∃ ob,ok O l=some ob∧ob.live∧ob'=ob.cv B O p
 | [],_,l,ob',h=>by simp [ok] at h
 | _::_,.cons (t:=t) h hv e r,l,ob',hl=>by
   rw [qa0] at hl
   split at hl
   ·rename_i hh;cases hl;subst hh;exact ⟨_,h,hv,e⟩
   ·exact r.get hl
theorem qbQ (h:qrm B O (inD Oin) Oin):qle B O Oin:=fun _ _ hl=>h.get hl
theorem qpq [DOk m c]{xs:List Operand}{tys:Array TypeId}{g:FuncId}{caps avs args:List AV}{T:List (Nat×AV)}{Post:AV→List (Nat×Ob)→Prop}(B:Bool)(hg:o.guard=some (j,b))(hj:(ops[j]?).bind (·.dst)=some t)(ht:lk T t=some (.imm (.bool b)))(htN:t<N)
  (ho:o.op=.call { callee:=.value x,args:=xs.toArray,argTypes:=tys }) (hd:o.dst=some d) (hN:d<N) (hen:qY P g)
  (hx:ev T x=some (.fn g caps)) (hxs:xs.map (ev T)=avs.map some) (hAC:ACx m P g args Oin Post) (hcv:AV.cvs B O (inD Oin) (avs++caps)=args) (hOin:qle B O Oin)
  (hfr:∀ r O',Post r O'→∀ l,inD O' l=true→inD Oin l=true∨inD O l=false)
  (hq:B=true→∀ r O',Post r O'→r.allQ (fun f=>f)=true∧qov (fun f=>f) O'=true)
  (K:∀ r O',Post r O'→awps P c N ops rest Q ⟨(d,r)::T,O'++O⟩):awps P c N ops (o::rest) Q ⟨T,O⟩:=by
 refine qor hg hj ht htN (qhn B ho (by intro e he;rw [hd] at he;cases he;exact hN) hen hx hxs hcv hOin hAC hfr hq ?_)
 intro r O' hP;simpa [St.put,hd] using K r O' hP
theorem qmO:∀ {A:List (Nat×Ob)} {l:Nat},inD A l=true→∃ p,p∈A∧p.1=l
 | [],l,h=>by simp [inD,ok] at h
 | (s,v)::A,l,h=>by
   simp only [inD,qa0] at h
   split at h
   ·rename_i e;exact ⟨_,List.mem_cons_self,e⟩
   ·obtain ⟨p,hp,e⟩:=qmO (A:=A) (l:=l) h
    exact ⟨p,List.mem_cons_of_mem _ hp,e⟩
theorem frB (h:(A.all fun p=>inD Oin p.1 || !inD O p.1)=true):∀ l,inD A l=true→inD Oin l=true∨inD O l=false:=fun l hl=>by
 obtain ⟨p,hp,rfl⟩:=qmO hl
 have:=List.all_eq_true.1 h p hp
 simpa using this
theorem qeW (n:Nat):(((n:Int)==0):Bool)=decide (n=0):=by
 rw [Bool.eq_iff_iff];simp
theorem qc0 {f:FuncId}{args:List AV}{O1:List (Nat×Ob)}{v:AV}(a b:Nat)(h:ACx m P f args O (fun r O'=>r=v∧O'=O1)):ACx m P f (AV.rns (swp a b) args) (rnO (swp a b) O) (fun r O'=>r=v.rn (swp a b)∧O'=rnO (swp a b) O1):=
 qnk (AC_rn a b h) fun r O' ⟨e1,e2⟩=>⟨by rw [← e1,qrO (qgn a b)],by rw [← e2,qjd (qgn a b)]⟩
theorem qC {T T1:List (Nat×AV)}{O1:List (Nat×Ob)}(h:SubT T1 T)(k:SubO O1 O)(hT:allT (inD O1) T1=true)(hO:allO (inD O1) O1=true)(hL:∀ l,c.L l→inD O1 l=true):Sub c N ⟨T,O⟩ ⟨T1,O1⟩:=sub_TO h k hT hO hL
theorem qbs (h:b=b'):AV.imm (.bool b)=AV.imm (.bool b'):=by rw [h]
theorem qan {b b':Int}(h:b=b'):AV.imm (.int .i64 b)=AV.imm (.int .i64 b'):=by rw [h]
theorem qbx {b b':Int}(h:b=b'):resV [AV.imm (.int .i64 b)]=AV.imm (.int .i64 b'):=by rw [h];rfl
theorem q7 (h:b=b'):resV [AV.imm (.bool b)]=AV.imm (.bool b'):=by rw [h];rfl
end
end Go.Proofs.YtpgceiijoedppaaGreat
namespace Go.Proofs.YtpgceiijoedppaaGreat
open Go
variable {O:List (Nat×Ob)}{ds:List D}{e:TypeId}{k:Nat}
def qhm (k:Nat):Nat→List D→List (List D)
 | 0,_=>[]
 | n+1,ds=>ds.take k::qhm k n (ds.drop k)
theorem qjn (k:Nat):∀ (n:Nat) (ds:List D),ds.length=n*k→(qhm k n ds).flatten=ds∧(qhm k n ds).length=n∧∀ d∈qhm k n ds,d.length=k
 | 0,ds,h=>by simp at h;subst h;simp [qhm]
 | n+1,ds,h=>by
   have hk:(n+1)*k=n*k+k:=Nat.succ_mul n k
   obtain ⟨h1,h2,h3⟩:=qjn k n (ds.drop k) (by rw [List.length_drop];omega)
   refine ⟨by simp [qhm,h1],by simp [qhm,h2],fun d hd=>?_⟩
   simp only [qhm,List.mem_cons] at hd
   rcases hd with rfl|hd
   ·rw [List.length_take];omega
   ·exact h3 d hd
theorem Far.rfl' {W:Nat→Prop}{w:World}:Far W w w:=Far.refl W w
section
variable {P:Program}{c:Ctx}{N:Nat}{Q:Exit→St→Prop}{σ:St}{o:Oper}
theorem sub_rowd {T:List (Nat×AV)}{l:Nat}{cs:List AV}(f:Bool)(n:Nat)(hl:ok O l=some (.row e k cs))(hd:toDs f cs=some ds)(hk:Nat.ble 1 k=true)(hn:cs.length=n*k):Sub c N ⟨T,O⟩ ⟨T,(l,.rowd e k f (qhm k n ds))::O⟩:=by
 rintro a w ⟨ρ,S,hc⟩
 have hk':=Nat.le_of_ble_eq_true hk
 obtain ⟨m,xs,how,h1,hr⟩:=hc.O l _ hl
 have e1:=qg0 hd
 have hdl:ds.length=n*k:=by rw [← hn,e1];simp [lift]
 obtain ⟨c1,c2,c3⟩:=qjn k n ds hdl
 have hm:m=n:=by
  have h2:=how.1
  rw [hr.length,hn] at h2
  exact (Nat.eq_of_mul_eq_mul_right zO h2).symm
 subst hm
 refine ⟨ρ,S,hc.modOb hl trivial Far.rfl' ⟨c3,xs,by rw [c2];exact how,h1,?_⟩⟩
 rw [c1,← e1]
 exact hr.mono (fun _ _ h=>h) (fun _ _ _=>rfl) (fun m hm=>by
  simp only [St.U,qa0] at hm ⊢
  split
  ·rfl
  ·exact hm) (fun _ _=>rfl)
theorem qcE {ops:Array Oper}{rest:List Oper}{T:List (Nat×AV)}{cs:List AV}(l:Nat)(f:Bool)(n:Nat)(hl:ok O l=some (.row e k cs))(hd:toDs f cs=some ds)(hk:Nat.ble 1 k=true)(hn:cs.length=n*k)
 (K:awps P c N ops rest Q ⟨T,(l,.rowd e k f (qhm k n ds))::O⟩):awps P c N ops rest Q ⟨T,O⟩:=qab (sub_rowd f n hl hd hk hn) K
theorem qmw {x y:Operand}{tys:Array TypeId}{g:FuncId}{fn:Func}{a b:ByteArray}(hf:P.funcs[g]?=some fn)(hn:(fn.name== "runtime.NumGoroutine")=false)(hb:fn.body.isNone=true)(hx:Extern.findNext fn=none)(he:Extern.find fn=some Extern.BytealgCompare.compare)
  (ho:o.op=.call { callee:=.value (.func g),args:=#[x,y],argTypes:=tys }) (h1:ev σ.T x=some (.imm (.string a))) (h2:ev σ.T y=some (.imm (.string b))):Stp P c N o σ [] (.imm (.int .i64 (Lib.compareBytes a.data.toList b.data.toList))) []:=by
 refine qaN fun σ' h3 _ st w ρ S hc=>⟨_,?_,by simp only [Rep];rfl⟩
 have hx':=qaz hc (h3 x (by simp [ho,Op.operands,Call.operands]) _ h1)
 have hy':=qaz hc (h3 y (by simp [ho,Op.operands,Call.operands]) _ h2)
 simp only [Rep] at hx' hy'
 simp only [execOp,ho,resolve]
 have e:st.eval (.func g)=.func (.func g) #[] #[]:=rfl
 have:=run_callFunc_extern hf hn hb hx he #[.string a,.string b] w
 rw [Lib.run_compareString] at this
 simp only [Result.andThen] at this
 simpa [Sem.run_bind,invoke,Deferred.ofValue,e,hx',hy'] using this
end
end Go.Proofs.YtpgceiijoedppaaGreat
namespace Go.Proofs.YtpgceiijoedppaaGreat
open Go Go.Maps Go.WideMaps Go.RowKit
variable {O:List (Nat×Ob)}{S:Bool→Nat→Prop}{b:Bool}{e k t:TypeId}{key v:Value}{kl:Lit}{ks:List Lit}{l:Nat}{w:World}{x y:Operand}{ρ:Nat→Value}
section
variable {P:Program}{c:Ctx}{N:Nat}{Q:Exit→St→Prop}{σ:St}{o:Oper}
theorem qko (l:Nat)(ho:o.op=.makeMap t none)(K:Keyed P k):Stp P c N o σ [] (.map l) [(l,.mp P k [])]:=by
 rintro hd σ' _ _ hn
 refine qlb (p0:=fun b=>.map (some b)) hd (hn _ (List.mem_singleton.2 E)) fun a w ρ S hc=>?_;refine ⟨.map #[] 0,?_,rfl,fun ρ' U' hρ hU hl hp=>⟨⟨w.heap.size,hp,0,.map [],K,World.ownsMap_made w P k R1,Nat.le_refl _,fun l=>⟨fun h=>(by cases h),fun _ z=>rfl⟩⟩,?_⟩⟩
 ·simp only [execOp,ho,Option.map_none]
  simp [Sem.run_bind,run_makeMap]
 ·simp only [Rep]
  exact ⟨hl,hp.symm,_,rfl⟩
def AV.immV:AV→Option Value
 | .imm v=>some v
 | _=>none
def AV.val:AV→Option Value
 | .imm v=>some v
 | .agg cs=>(cs.mapM AV.immV).map fun vs=>.agg vs.toArray
 | _=>none
theorem qpF {w:World}{ρ:Nat→Value}{S:Bool→Nat→Prop}{U:Nat→Prop}:∀ {cs:List AV} {vs xs:List Value},cs.mapM AV.immV=some vs→RepL w ρ S U cs xs→xs=vs
 | [],vs,xs,h,hr=>by simp at h;simp only [RepL] at hr;rw [hr,h]
 | a::cs,vs,xs,h,hr=>by
   simp only [List.mapM_cons,Option.bind_eq_bind,Option.bind_eq_some_iff,Option.pure_def,Option.some.injEq] at h
   obtain ⟨v,hv,us,hus,rfl⟩:=h
   simp only [RepL] at hr
   obtain ⟨y,ys,rfl,h1,h2⟩:=hr
   have:=qpF hus h2
   subst this
   cases a<;>simp only [AV.immV] at hv<;>try (cases hv;done)
   simp only [Option.some.injEq] at hv;subst hv;simp only [Rep] at h1;rw [h1]
theorem qrC {U:Nat→Prop}{a:AV}{x:Value}(h:a.val=some v)(hr:Rep w ρ S U a x):x=v:=by
 cases a with
 | imm u=>simp only [AV.val,Option.some.injEq] at h;subst h;simpa [Rep] using hr
 | agg cs=>
   simp only [AV.val,Option.map_eq_some_iff] at h
   obtain ⟨vs,h1,rfl⟩:=h
   simp only [Rep] at hr
   obtain ⟨xs,rfl,_,h2⟩:=hr
   rw [qpF h1 h2]
 | _=>simp [AV.val] at h
theorem qrj {z:Operand}{kv:AV}{T:List (Nat×AV)}(ho:o.op=.mapUpdate t x y z)(hd:o.dst=none)(ht:P.underlying t=some (.map k e))
  (hx:ev T x=some (.map l)) (hl:ok O l=some (.mp P k ks)) (hy:ev T y=some kv) (hkv:kv.val=some key) (hz:ev T z=some (.imm (.bool true))) (hkey:keyOf P k key=some kl) (hn:ks.length<maxLen):AOp P c N o ⟨T,O⟩ (fun σ2=>σ2=⟨T,(l,.mp P k (kl::ks))::O⟩):=by
 rintro a w ⟨ρ,S,hc⟩
 have hx':=qaz hc hx
 have hy':=qrC hkv (qaz hc hy)
 have hz':=qaz hc hz
 simp only [Rep] at hx' hz'
 obtain ⟨hU,hxe,r',hr'⟩:=hx'
 obtain ⟨r,hr,n,D,K,hown,hnn,hmem⟩:=hc.O l _ hl
 rw [hr] at hxe
 obtain ⟨w',hrun,hown2,hgrow⟩:=hown.update K ht (Nat.lt_of_le_of_lt hnn hn) hkey (val:=.bool true) (d:=.lit (.bool true)) (ps:=[]) rfl
 have hf:Far (fun b=>blk (ρ l)=some b) w w':=by
  refine ⟨hgrow.os,hgrow.tape,hgrow.output,hgrow.size,fun i hi hb=>hgrow.block i hi fun e=>hb ?_,qku _ _ _ _ hrun⟩
  rw [hr];simpa [blk] using e.symm
 have hIs:Maps.IsMap D:=hown.isMap
 have hob:ObOk w' ρ S (St.U ⟨T,(l,.mp P k (kl::ks))::O⟩) l (.mp P k (kl::ks)):=by
  refine ⟨r,hr,n+1,_,K,hown2,by simp only [List.length_cons];omega,fun u=>?_⟩
  by_cases hu:u=kl
  ·subst hu
   exact ⟨fun _ z=>atKey_put_same hIs (K.key hkey) _ z,fun h=>absurd (List.mem_cons_self) h⟩
  ·have h2:=hmem u
   refine ⟨fun h z=>?_,fun h z=>?_⟩
   ·rw [atKey_put_other hu]
    exact h2.1 ((List.mem_cons.1 h).resolve_left hu) z
   ·rw [atKey_put_other hu]
    exact h2.2 (fun h3=>h (List.mem_cons_of_mem _ h3)) z
 unfold Oper.wp
 have:(execOp a.eval o).run P w=.ok .skip w':=by
  simp only [execOp,ho,hxe,hy',hz']
  simp [Sem.run_bind,hrun]
 rw [this]
 have hput:a.put o.dst undef=a:=by rw [hd];rfl
 simp only [Oper.upon,hput]
 exact ⟨_,⟨ρ,S,hc.modOb hl trivial hf hob⟩,rfl⟩
theorem qif {ops:Array Oper}{rest:List Oper}{z:Operand}{kv:AV}{T:List (Nat×AV)}(hg:o.guard=none)(ho:o.op=.mapUpdate t x y z)(hd:o.dst=none)(ht:P.underlying t=some (.map k e))
  (hx:ev T x=some (.map l)) (hl:ok O l=some (.mp P k ks)) (hy:ev T y=some kv) (hkv:kv.val=some key) (hz:ev T z=some (.imm (.bool true))) (hkey:keyOf P k key=some kl) (hn:ks.length<maxLen)
  (K:awps P c N ops rest Q ⟨T,(l,.mp P k (kl::ks))::O⟩):awps P c N ops (o::rest) Q ⟨T,O⟩:=by
 refine qcF hg fun a w hc=>Oper.wp_mono ?_ (qrj ho hd ht hx hl hy hkv hz hkey hn a w hc)
 rintro a w ⟨σ2,h2,rfl⟩
 exact ⟨_,h2,K⟩
theorem qsN {ps:List MemPlace}(h:R1 v=some (.lit (.bool b),ps)):v=.bool b:=by
 cases v<;>simp only [R1] at h<;>try (cases h;done)
 simp only [Option.some.injEq,Prod.mk.injEq,DataW.lit.injEq,Lit.bool.injEq] at h
 rw [h.1]
theorem qlJ {kv:AV}(ho:o.op=.lookup t x y false)(ht:P.underlying t=some (.map k e))(hz:∀ w,(zeroValue e).run P w=.ok (.bool false) w)
  (hx:ev σ.T x=some (.map l)) (hl:ok σ.O l=some (.mp P k ks)) (hy:ev σ.T y=some kv) (hkv:kv.val=some key) (hkey:keyOf P k key=some kl) (hb:b=true↔kl∈ks):Stp P c N o σ [l] (.imm (.bool b)) []:=by
 refine qaN fun σ' h1 h2 a w ρ S hc=>⟨_,?_,by simp only [Rep];rfl⟩
 have hx':=qaz hc (h1 x (by simp [ho,Op.operands]) _ hx)
 have hy':=qrC hkv (qaz hc (h1 y (by simp [ho,Op.operands]) _ hy))
 simp only [Rep] at hx'
 obtain ⟨hU,hxe,_⟩:=hx'
 obtain ⟨r,hr,n,D,K,hown,hnn,hmem⟩:=hc.O l _ (h2 l (by simp) _ hl)
 rw [hr] at hxe
 obtain ⟨v,ps,hrun,hR⟩:=hown.lookup K ht (hz w) (zd:=.lit (.bool false)) (zp:=[]) rfl hkey
 have hv:v=.bool b:=by
  cases hbb:b with
  | true=>rw [(hmem kl).1 (hb.1 hbb)] at hR;exact qsN hR
  | false=>rw [(hmem kl).2 (fun h=>by rw [hb.2 h] at hbb;cases hbb)] at hR;exact qsN hR
 simp only [execOp,ho,hxe,hy']
 simp [Sem.run_bind,hrun,hv]
theorem Far0.of_below {w':World}(h:Below w.heap.size w w'):Far0 (fun _=>False) w w':=⟨h.os,h.tape,h.output,h.size,fun b hb _=>h.block b hb⟩
theorem qrw {T T':List (Nat×AV)}{O':List (Nat×Ob)}{a:Act}{w':World}{xs:List Value}{d:Nat}(hc:Conc c N ⟨T,O⟩ a w ρ S)(hD:¬ c.D)(hf:Far0 (fun _=>False) w w')(hrow:w'.ownsRow w.heap.size e 1 v xs.length xs)(h1:∀ y∈xs,y.oneCell'=true)(hze:Zsz e=1)
  (hd:d<N) (hl:ok O l=none) (hL:¬ c.L l) (hT':frT l (.dat true 1 (xs.map fun x=>[.imm x])) ((d,.row l)::T)=T') (hO':frO l (.dat true 1 (xs.map fun x=>[.imm x])) ((l,.rowd e 1 true (xs.map fun x=>[.imm x]))::O)=O'):C c N ⟨T',(l,.dead)::O'⟩ (a.put (some d) v) w':=by
 have hw0:=hc.fm.size
 have hg:Conc c N ⟨T,O⟩ a w' ρ S:=hc.grow0 hf (fun h=>absurd h hD) (fun _ _ _ h=>h) (fun _ _ _ _ _ _ h=>h) (fun _ _ h=>h.elim)
 have hfl:(xs.map fun x=>[D.imm x]).flatten=xs.map .imm:=by
  clear hrow h1 hT' hO'
  induction xs with
  | nil=>rfl
  | cons x xs ih=>simp only [List.map_cons,List.flatten_cons,ih];rfl
 have hrl:∀ (ρ:Nat→Value) (S:Bool→Nat→Prop) (U:Nat→Prop),RepL w' ρ S U (lift true (xs.map fun x=>[D.imm x]).flatten) xs:=fun ρ S U=>by
  rw [hfl]
  clear hrow h1 hT' hO' hfl
  induction xs with
  | nil=>simp [lift,RepL]
  | cons x xs ih=>simp only [lift,List.map_cons,D.av,RepL];exact ⟨x,xs,rfl,by simp [Rep],ih⟩
 have ha:Conc c N ⟨T,(l,.rowd e 1 true (xs.map fun x=>[.imm x]))::O⟩ a w' (upd ρ l v) S:=by
  refine hg.addOb hl (fun b hb=>?_) ⟨fun d hd=>by simp only [List.mem_map] at hd;obtain ⟨x,_,rfl⟩:=hd;rfl,xs,by rw [qbY,List.length_map];exact ⟨hrow.1,hrow.2.imp id fun ⟨g,cap,cur,h2,h3,h4⟩=>⟨g,cap,cur,h2,Nat.zero_le _,h4⟩⟩,h1,hrl _ _ _⟩
  rcases hrow.2 with ⟨hv,_⟩|⟨g,cap,cur,hv,hgb,hh,_⟩
  ·rw [hv] at hb;simp [blk] at hb
  ·rw [hv] at hb;simp only [blk,Option.some.injEq] at hb;subst hb
   have hlt:g<w'.heap.size:=by
    rcases Nat.lt_or_ge g w'.heap.size with h|h
    ·exact h
    ·rw [Array.getElem?_eq_none h] at hh;cases hh
   exact ⟨hlt,by omega,fun f hS=>by have:=hc.Sb f _ hS;omega,fun m om hm hv' e'=>by have:=hc.lt m om _ hm hv' e';omega⟩
 have hput:=ha.put (dst:=some d) (v:=.row l) (x:=v) (fun e he=>by cases he;exact hd) (by
  simp only [Rep]
  refine ⟨by simp [St.U,qa0],by rw [qbY],?_⟩
  rcases hrow.2 with ⟨hv,_⟩|⟨g,cap,cur,hv,_⟩
  ·exact ⟨none,0,0,hv⟩
  ·exact ⟨_,_,_,hv⟩)
 exact qaG (c:=c) (N:=N) (T:=(d,.row l)::T) (O:=(l,.rowd e 1 true (xs.map fun x=>[.imm x]))::O) (e:=e) (by simp [qa0]) (Nat.one_pos) hL hT' hO' (fun _=>hze) _ _ ⟨_,_,hput⟩
end
end Go.Proofs.YtpgceiijoedppaaGreat
namespace Go.Proofs.YtpgceiijoedppaaGreat
open Go Go.RowKit
variable {O O1:List (Nat×Ob)}{P:Program}{by_ k l:Nat}{e t:TypeId}{es news:List (List D)}{f m:Bool}{s x:Operand}
def qsm (es:List (List D)):Bool:=es.all fun ds=>ds.all fun d=>match d with
 | .imm _=>true
 | _=>false
theorem qqf {f g:Bool}:∀ {ds:List D},(ds.all fun d=>match d with|.imm _=>true|_=>false)=true→lift f ds=lift g ds
 | [],_=>rfl
 | d::ds,h=>by
   simp only [List.all_cons,Bool.and_eq_true] at h
   have ih:=qqf (f:=f) (g:=g) h.2
   simp only [lift,List.map_cons] at ih ⊢
   rw [ih]
   cases d with
   | imm v=>rfl
   | sl k es=>have:=h.1;cases this
theorem qq2 {g:Bool}(h:qsm es=true):lift f es.flatten=lift g es.flatten:=by
 refine qqf ?_
 rw [qsm,List.all_eq_true] at h
 rw [List.all_eq_true]
 intro d hd
 obtain ⟨ds,h1,h2⟩:=List.mem_flatten.1 hd
 exact List.all_eq_true.1 (h ds h1) d h2
section
variable {P:Program}{c:Ctx}{N:Nat}{Q:Exit→St→Prop}{σ:St}{o:Oper}
theorem qhH {l':Nat}{T:List (Nat×AV)}(ty:TyA P t e k by_)
  (ho:o.op=.call { callee:=.builtin .append,args:=#[s,x],argTypes:=#[t,t] }) (hdN:∀ d,o.dst=some d→d<N)
  (hs:ev T s=some (.row l)) (hl:ok O l=some (.rowd e k f es)) (hL:¬ c.L l) (hl':ok O l'=none)
  (hx:∀ a w ρ S,Conc c N ⟨T,O⟩ a w ρ S→∃ A n c',a.eval x=.slice A n c'∧n=news.length∧((A=none∧n=0)∨∃ ad,∃ us:List Value,A=some ad∧us.length=n*k∧(∀ j u,us[j]?=some u→w.cell? (ad.add j)=some u)∧(∀ u∈us,u.oneCell'=true)∧RepL w ρ S (St.U ⟨T,O⟩) (lift f news.flatten) us))
  (hk:∀ d∈news,d.length=k) (hb:(es.length+news.length)*by_≤140737488355328) (hb0:0<by_):
  AOp P c N o ⟨T,O⟩ (fun σ2=>σ2=St.add ⟨T,O⟩ o.dst (.row l') [(l',.rowd e k f (es++news)),(l,.dead)]):=by
 rintro a w ⟨ρ,S,hc⟩
 have hev:=qaz hc hs
 simp only [Rep] at hev
 obtain ⟨hUl,hse,_⟩:=hev
 obtain ⟨hes,xs,how,h1,hr⟩:=hc.O l _ hl
 obtain ⟨A,n,c',hxe,hn,hsrc⟩:=hx a w ρ S hc
 obtain ⟨i,hi1,hi2,hi3⟩:=qcL ty.s
 obtain ⟨z,hz1,hz2⟩:=ty.z
 obtain ⟨i',hi',hzz⟩:=Option.map_eq_some_iff.1 hz1
 rw [hi2] at hi';simp only [Option.some.injEq] at hi';subst hi'
 simp only [Prod.mk.injEq] at hzz
 obtain ⟨hz3,_,hz4⟩:=hzz
 obtain ⟨v',w',us,hrun,how',hgr,hat,hone,hrep,hul⟩:∃ v' w',∃ us:List Value,(Builtin.append_ #[t,t] o.type #[ρ l,.slice A n c']).run P w=.ok v' w'∧w'.ownsRow 0 e k v' (es.length+n) (xs++us)∧w.grownBy w' (ρ l).ownBlock∧((v').ownBlock=(ρ l).ownBlock∨v'.ownBlock=some w.heap.size)∧(∀ u∈us,u.oneCell'=true)∧RepL w ρ S (St.U ⟨T,O⟩) (lift f news.flatten) us∧us.length=n*k:=by
  rcases hsrc with ⟨rfl,rfl⟩|⟨ad,us,rfl,h3,h4,h5,h6⟩
  ·have hnil:news=[]:=List.eq_nil_of_length_eq_zero hn.symm
   obtain ⟨A',cc,hv⟩:=qf2 how
   refine ⟨ρ l,w,[],?_,by simpa using how,⟨rfl,rfl,rfl,Nat.le_refl _,fun _ _ _=>rfl⟩,.inl E,by simp,by simp [hnil,lift,RepL],by simp⟩
   rw [hv]
   refine qkv t o.type e k ty.s w A' es.length cc c' ?_ (fun a _=>rfl)
   rcases how.2 with ⟨h7,h8⟩|⟨g,cap,cur,h7,_,_,h8,_⟩
   ·omega
   ·rw [hv] at h7;simp only [Value.slice.injEq] at h7;omega
  ·have hmax:es.length+n≤maxLen:=by
    have:es.length+n≤(es.length+news.length)*by_:=by rw [hn];exact Nat.le_mul_of_pos_right _ hb0
    simp only [maxLen];omega
   obtain ⟨v',w',hr1,hr2,hr3,_,hr5⟩:=run_append_own_at (P:=P) w 0 t o.type e i z k by_ hi1 hi2 hz3 hi3 hz4 hz2 ty.k0 (ρ l) es.length xs how ad n c' us h3 h4 h5 hmax (by rw [hn];exact hb) (Nat.zero_le _)
   exact ⟨v',w',us,hr1,hr2,hr3,hr5,h5,h6,h3⟩
 have hown:=qj8 how
 have hown':=qj8 how'
 rw [hown] at hgr hat
 rw [hown'] at hat
 have hf:Far (fun b=>blk (ρ l)=some b) w w':=⟨hgr.os,hgr.tape,hgr.output,hgr.size,fun b hb hne=>hgr.block b hb (fun e=>hne e.symm),qku _ _ _ _ hrun⟩
 have hll:l≠l':=fun e=>by subst e;rw [hl] at hl';cases hl'
 have hokd:∀ m ob,ok ((l,Ob.dead)::O) m=some ob→ob.live→ok O m=some ob∧m≠l:=fun m ob hm hv=>by
  rw [qa0] at hm
  split at hm
  ·cases hm;exact hv.elim
  ·rename_i hne;exact ⟨hm,fun e=>hne e.symm⟩
 have hUd:∀ m,St.U ⟨T,O⟩ m→St.U ⟨T,(l,.dead)::O⟩ m:=fun m hm=>qet m hm
 have hc1:Conc c N ⟨T,(l,.dead)::O⟩ a w ρ S:=by
  refine ⟨hc.tm,hc.df,fun t v ht=>(hc.T t v ht).mono (fun _ _ h=>h) (fun _ _ _=>rfl) hUd (fun _ _=>rfl),fun m ob hm=>?_,fun m m' ob ob' b h1 h2 h3 h4=>hc.dj m m' ob ob' b (hokd m ob h1 h3).1 (hokd m' ob' h2 h4).1 h3 h4,fun m ob b f h1 h2=>hc.dS m ob b f (hokd m ob h1 h2).1 h2,fun m ob b h1 h2=>hc.wr m ob b (hokd m ob h1 h2).1 h2,fun m ob b h1 h2=>hc.lt m ob b (hokd m ob h1 h2).1 h2,hc.SS,hc.Sb,hc.Sn,hc.So,fun m hm=>⟨?_,(hc.lo m hm).2⟩,hc.fm⟩
  ·by_cases hv:ob.live
   ·obtain ⟨h1,h2⟩:=hokd m ob hm hv
    exact (hc.O m ob h1).mono (fun _ _ h=>h) (fun _ _ _=>rfl) hUd (fun _ _=>rfl) (by simp [St.U,h1]) (fun _ _=>rfl)
   ·cases ob<;>simp [Ob.live] at hv;trivial
  ·have:=(hc.lo m hm).1
   simp only [qa0]
   split
   ·rfl
   ·exact this
 have hne:∀ m ob,ok ((l,Ob.dead)::O) m=some ob→ob.live→m≠l:=fun m ob hm hv=>(hokd m ob hm hv).2
 have hlock:¬ c.L l:=hL
 have hwr:∀ b,blk (ρ l)=some b→c.w0.heap.size≤b:=fun b hb=>by
  rcases hc.wr l _ b hl trivial hb with h|h
  ·exact h
  ·exact absurd h.1 hlock
 have hc2:Conc c N ⟨T,(l,.dead)::O⟩ a w' ρ S:=hc1.grow hf (fun f b hS e=>hc.dS l _ b f hl trivial e hS) (fun m ob b hm hv hb e=>hne m ob hm hv (hc.dj m l ob _ b (hokd m ob hm hv).1 hl hv trivial hb e)) (fun b hb e=>by have:=hwr b e;omega)
 have hsz:=hf.size
 have hblk:∀ b,blk v'=some b→b<w'.heap.size∧c.w0.heap.size≤b∧(∀ f,¬ S f b)∧∀ m om,ok ((l,Ob.dead)::O) m=some om→om.live→blk (ρ m)≠some b:=by
  intro b hb
  have hlt:b<w'.heap.size:=by
   obtain ⟨_,_,_,hh,_⟩:=qfY how' hb
   exact (Array.getElem?_eq_some_iff.1 hh).1
  rcases hat with h|h
  ·rw [h] at hb
   exact ⟨hlt,hwr b hb,fun f hS=>hc.dS l _ b f hl trivial hb hS,fun m om hm hv e=>hne m om hm hv (hc.dj m l om _ b (hokd m om hm hv).1 hl hv trivial e hb)⟩
  ·rw [h] at hb;simp only [Option.some.injEq] at hb;subst hb
   have:=hc.fm.size
   exact ⟨hlt,this,fun f hS=>Nat.lt_irrefl _ (hc.Sb f _ hS),fun m om hm hv e=>Nat.lt_irrefl _ (hc.lt m om _ (hokd m om hm hv).1 hv e)⟩
 have hS':∀ f b,S f b→w'.heap[b]?=w.heap[b]?:=fun f b hb=>hf.block b (hc.Sb f b hb) (fun e=>hc.dS l _ b f hl trivial e hb)
 have hcells:RepL w' (upd ρ l' v') S (St.U ⟨T,(l',.rowd e k f (es++news))::(l,.dead)::O⟩) (lift f (es++news).flatten) (xs++us):=by
  have h8:lift f (es++news).flatten=lift f es.flatten++lift f news.flatten:=by simp [lift]
  rw [h8]
  exact (RepL.move (p:=fun _=>false) (fun _ _ h=>h) hS' (fun _ h=>by cases h) _ _ (qbU _ _ _) hr).append (RepL.move (p:=fun _=>false) (fun _ _ h=>h) hS' (fun _ h=>by cases h) _ _ (qbU _ _ _) hrep)
 have hc3:Conc c N ⟨T,(l',.rowd e k f (es++news))::(l,.dead)::O⟩ a w' (upd ρ l' v') S:=by
  refine hc2.addOb (by rw [qa0,if_neg hll];exact hl') hblk ⟨?_,xs++us,?_,?_,hcells⟩
  ·intro d hd
   rcases List.mem_append.1 hd with h|h
   ·exact hes d h
   ·exact hk d h
  ·rw [qbY,List.length_append,← hn];exact how'
  ·intro y hy
   rcases List.mem_append.1 hy with h|h
   ·exact h1 y h
   ·exact hone y h
 have hput:=hc3.put (dst:=o.dst) (v:=.row l') (x:=v') hdN (by
  simp only [Rep]
  obtain ⟨A',cc,hv⟩:=qf2 how'
  exact ⟨by simp [St.U,qa0],(qbY ρ l' v').symm,A',_,cc,hv⟩)
 have hex:(execOp a.eval o).run P w=.ok (.value v') w':=by
  simp only [execOp,ho,resolve]
  simp [Sem.run_bind,invoke,builtin,hse,hxe,hrun]
 unfold Oper.wp
 rw [hex]
 refine ⟨_,⟨_,_,hput⟩,?_⟩
 cases o.dst<;>rfl
theorem qaU {l2:Nat}{cs:List AV}{nd:List D}(l':Nat)(ty:TyA P t e k by_)
  (ho:o.op=.call { callee:=.builtin .append,args:=#[s,x],argTypes:=#[t,t] }) (hs:ev σ.T s=some (.row l)) (hl:ok σ.O l=some (.rowd e k f es)) (hx:ev σ.T x=some (.row l2)) (hl2:ok σ.O l2=some (.row e k cs)) (hcs:toDs f cs=some nd) (hnd:nd.length=k)
  (hll:Nat.beq l' l=false) (hL:¬ c.L l) (hb:(es.length+1)*by_≤140737488355328) (hb0:Nat.ble 1 by_=true):StpU P c N o σ [l,l2] (.row l') [(l',.rowd e k f (es++[nd])),(l,.dead)] [l]:=by
 intro hdN σ1 g1 g2 g3
 have hs':=g1 s (by simp [ho,Op.operands,Call.operands]) _ hs
 have hx':=g1 x (by simp [ho,Op.operands,Call.operands]) _ hx
 have hl1':=g2 l (by simp) _ hl
 have hl2':=g2 l2 (by simp) _ hl2
 have hne:¬ l'=l:=fun e=>by subst e;simp at hll
 have hnew:=g3 (l',.rowd e k f (es++[nd])) (by simp) (by simpa using hne)
 refine qhH (T:=σ1.T) (O:=σ1.O) (news:=[nd]) ty ho hdN hs' hl1' hL hnew ?_ (by simpa using hnd) (by simpa using hb) (Nat.le_of_ble_eq_true hb0)
 ·intro a w ρ S hc
  have hev:=qaz hc hx'
  simp only [Rep] at hev
  obtain ⟨hU,hxe,A,n,cc,hsl⟩:=hev
  obtain ⟨m,xs,how,h1,hr⟩:=hc.O l2 _ hl2'
  have hcl:=qg0 hcs
  have hlen:=hr.length
  rw [hcl] at hr hlen
  simp only [lift,List.length_map] at hlen
  have hm:m=1:=by
   have:=how.1
   have hk0:=ty.k0
   rw [hlen,hnd] at this
   have h1m:1*k=m*k:=by omega
   exact (Nat.eq_of_mul_eq_mul_right hk0 h1m).symm
  subst hm
  rcases how.2 with ⟨_,h⟩|⟨g,cap,cur,hv,_⟩
  ·omega
  ·refine ⟨some ⟨g,0,none⟩,1,cap,by rw [hxe,hv],rfl,.inr ⟨⟨g,0,none⟩,xs,rfl,by rw [hlen,hnd];omega,fun j u hu=>?_,h1,by simpa using hr⟩⟩
   rw [qcq,Nat.zero_add]
   exact qb8 how (by rw [hv];rfl) j u hu
theorem qd5 (l':Nat)(ty:TyA P t e k by_)
  (ho:o.op=.call { callee:=.builtin .append,args:=#[s,x],argTypes:=#[t,t] }) (hs:ev σ.T s=some (.row l)) (hl:ok σ.O l=some (.rowd e k f es)) (hx:ev σ.T x=some (.dat f k news))
  (hll:Nat.beq l' l=false) (hL:¬ c.L l) (hk:∀ d∈news,d.length=k) (hb:(es.length+news.length)*by_≤140737488355328) (hb0:Nat.ble 1 by_=true):StpU P c N o σ [l] (.row l') [(l',.rowd e k f (es++news)),(l,.dead)] [l]:=by
 intro hdN σ1 g1 g2 g3
 have hs':=g1 s (by simp [ho,Op.operands,Call.operands]) _ hs
 have hx':=g1 x (by simp [ho,Op.operands,Call.operands]) _ hx
 have hl1':=g2 l (by simp) _ hl
 have hne:¬ l'=l:=fun e=>by subst e;simp at hll
 have hnew:=g3 (l',.rowd e k f (es++news)) (by simp) (by simpa using hne)
 refine qhH (T:=σ1.T) (O:=σ1.O) (news:=news) ty ho hdN hs' hl1' hL hnew ?_ hk hb (Nat.le_of_ble_eq_true hb0)
 ·intro a w ρ S hc
  have hev:=qaz hc hx'
  simp only [Rep,RepD] at hev
  obtain ⟨A,n,cc,hxe,hn,_,_,h⟩:=hev
  refine ⟨A,n,cc,hxe,hn,?_⟩
  by_cases hA:A=none
  ·rcases h with h|⟨b,off,h,_⟩
   ·exact .inl ⟨hA,h⟩
   ·rw [hA] at h;cases h
  ·rcases h with h|⟨b,off,h,hS,_,hes⟩
   ·obtain ⟨ad,rfl⟩:=Option.ne_none_iff_exists'.1 hA
    have hnil:news=[]:=List.eq_nil_of_length_eq_zero (by omega)
    exact .inr ⟨ad,[],rfl,by simp [h],by simp,by simp,by simp [hnil,lift,RepL]⟩
   ·have hcs:∀ {es:List (List D)} {off:Nat},qcK w f (S f) b k off es→qbX w f (S f) b off es.flatten:=by
     intro es
     induction es with
     | nil=>intro off _;simp [qbX]
     | cons e es ih=>
       intro off h
       simp only [qcK] at h
       have app:∀ {xs ys:List D} {off:Nat},qbX w f (S f) b off xs→qbX w f (S f) b (off+xs.length) ys→qbX w f (S f) b off (xs++ys):=by
        intro xs
        induction xs with
        | nil=>intro ys off _ h;simpa using h
        | cons x xs ih=>intro ys off h1 h2;simp only [qbX,List.cons_append] at h1 ⊢;exact ⟨h1.1,ih h1.2 (by simpa [Nat.add_assoc,Nat.add_comm 1] using h2)⟩
       rw [List.flatten_cons]
       exact app h.1.2 (by rw [h.1.1];exact ih h.2)
    obtain ⟨us,h2,h3,h4⟩:=qf0 (ρ:=ρ) (U:=St.U ⟨σ1.T,σ1.O⟩) (hcs hes)
    have hl2:=h2.length
    have hfl:∀ {es:List (List D)},(∀ d∈es,d.length=k)→es.flatten.length=es.length*k:=by
     intro es
     induction es with
     | nil=>intro _;simp
     | cons e es ih=>intro h;rw [List.flatten_cons,List.length_append,h e (by simp),ih (fun d hd=>h d (by simp [hd])),List.length_cons,Nat.add_mul];omega
    refine .inr ⟨⟨b,off,none⟩,us,h,?_,fun j u hu=>by rw [qcq];exact h4 j u hu,h3,h2⟩
    rw [hl2];simp only [lift,List.length_map];rw [hfl hk,hn]
theorem qju {g:Bool}(l':Nat)(ty:TyA P t e k by_)
  (ho:o.op=.call { callee:=.builtin .append,args:=#[s,x],argTypes:=#[t,t] }) (hs:ev σ.T s=some (.row l)) (hl:ok σ.O l=some (.rowd e k f es)) (hx:ev σ.T x=some (.dat g k news)) (him:qsm news=true)
  (hll:Nat.beq l' l=false) (hL:¬ c.L l) (hk:∀ d∈news,d.length=k) (hb:(es.length+news.length)*by_≤140737488355328) (hb0:Nat.ble 1 by_=true):StpU P c N o σ [l] (.row l') [(l',.rowd e k f (es++news)),(l,.dead)] [l]:=by
 intro hdN σ1 g1 g2 g3
 have hs':=g1 s (by simp [ho,Op.operands,Call.operands]) _ hs
 have hx':=g1 x (by simp [ho,Op.operands,Call.operands]) _ hx
 have hl1':=g2 l (by simp) _ hl
 have hne:¬ l'=l:=fun e=>by subst e;simp at hll
 have hnew:=g3 (l',.rowd e k f (es++news)) (by simp) (by simpa using hne)
 refine qhH (T:=σ1.T) (O:=σ1.O) (news:=news) ty ho hdN hs' hl1' hL hnew ?_ hk hb (Nat.le_of_ble_eq_true hb0)
 ·intro a w ρ S hc
  rw [qq2 (f:=f) (g:=g) him]
  have hev:=qaz hc hx'
  simp only [Rep,RepD] at hev
  obtain ⟨A,n,cc,hxe,hn,_,_,h⟩:=hev
  refine ⟨A,n,cc,hxe,hn,?_⟩
  by_cases hA:A=none
  ·rcases h with h|⟨b,off,h,_⟩
   ·exact .inl ⟨hA,h⟩
   ·rw [hA] at h;cases h
  ·rcases h with h|⟨b,off,h,hS,_,hes⟩
   ·obtain ⟨ad,rfl⟩:=Option.ne_none_iff_exists'.1 hA
    have hnil:news=[]:=List.eq_nil_of_length_eq_zero (by omega)
    exact .inr ⟨ad,[],rfl,by simp [h],by simp,by simp,by simp [hnil,lift,RepL]⟩
   ·have hcs:∀ {es:List (List D)} {off:Nat},qcK w g (S g) b k off es→qbX w g (S g) b off es.flatten:=by
     intro es
     induction es with
     | nil=>intro off _;simp [qbX]
     | cons e es ih=>
       intro off h
       simp only [qcK] at h
       have app:∀ {xs ys:List D} {off:Nat},qbX w g (S g) b off xs→qbX w g (S g) b (off+xs.length) ys→qbX w g (S g) b off (xs++ys):=by
        intro xs
        induction xs with
        | nil=>intro ys off _ h;simpa using h
        | cons x xs ih=>intro ys off h1 h2;simp only [qbX,List.cons_append] at h1 ⊢;exact ⟨h1.1,ih h1.2 (by simpa [Nat.add_assoc,Nat.add_comm 1] using h2)⟩
       rw [List.flatten_cons]
       exact app h.1.2 (by rw [h.1.1];exact ih h.2)
    obtain ⟨us,h2,h3,h4⟩:=qf0 (ρ:=ρ) (U:=St.U ⟨σ1.T,σ1.O⟩) (hcs hes)
    have hl2:=h2.length
    have hfl:∀ {es:List (List D)},(∀ d∈es,d.length=k)→es.flatten.length=es.length*k:=by
     intro es
     induction es with
     | nil=>intro _;simp
     | cons e es ih=>intro h;rw [List.flatten_cons,List.length_append,h e (by simp),ih (fun d hd=>h d (by simp [hd])),List.length_cons,Nat.add_mul];omega
    refine .inr ⟨⟨b,off,none⟩,us,h,?_,fun j u hu=>by rw [qcq];exact h4 j u hu,h3,h2⟩
    rw [hl2];simp only [lift,List.length_map];rw [hfl hk,hn]
theorem qZ {T:List (Nat×AV)}(x y:Nat)(hx:¬ c.L x)(hy:¬ c.L y):Sub c N ⟨T,O⟩ ⟨rnT (swp x y) T,rnO (swp x y) O⟩:=by
 rintro a w ⟨ρ,S,hc⟩
 have h:=Conc.rn (qgn x y) hc
 have hLp:∀ l,c.L l→swp x y l=l:=fun l hl=>by
  have h1:¬ l=x:=fun e=>hx (e▸hl)
  have h2:¬ l=y:=fun e=>hy (e▸hl)
  simp only [swp,Nat.beq_eq_false h1,Nat.beq_eq_false h2,cond_false]
 refine ⟨_,S,h.tm,h.df,h.T,h.O,h.dj,h.dS,fun l ob b h1 h2 h3=>?_,h.lt,h.SS,h.Sb,h.Sn,h.So,fun l hl=>?_,hc.fm⟩
 ·rcases h.wr l ob b h1 h2 h3 with h4|⟨h4,h5⟩
  ·exact .inl h4
  ·refine .inr ⟨?_,h5⟩
   have:=hLp _ h4
   rw [qgn] at this
   rw [this];exact h4
 ·have h1:=h.lo l (by rw [show c.L (swp x y l)=c.L l from by rw [hLp l hl]];exact hl)
  refine ⟨h1.1,?_⟩
  have:=(hc.lo l hl).2
  rw [hLp l hl];exact this
theorem qbn [DOk m c]{xs:List Operand}{tys:Array TypeId}{g:FuncId}{caps avs args:List AV}{v:AV}(B:Bool)
  (ho:o.op=.call { callee:=.value x,args:=xs.toArray,argTypes:=tys }) (hen:qY P g)
  (hx:ev σ.T x=some (.fn g caps)) (hxs:xs.map (ev σ.T)=avs.map some) (hAC:ACx m P g args [] (fun r O'=>r=v∧O'=O1)) (hcv:∀ O',AV.cvs B O' (inD []) (avs++caps)=args) (hq:(!B || (v.allQ (fun f=>f)&&qov (fun f=>f) O1))=true):StpU P c N o σ [] v O1 []:=by
 rintro hdN σ' h1 h2 h3
 have hxs':xs.map (ev σ'.T)=avs.map some:=by
  rw [← hxs]
  refine List.map_congr_left fun y hy=>?_
  have:∀ u,ev σ.T y=some u→ev σ'.T y=some u:=h1 y (by simp [ho,Op.operands,Call.operands,hy])
  have hsome:∃ u,ev σ.T y=some u:=by
   have:ev σ.T y∈avs.map some:=by rw [← hxs];exact List.mem_map.2 ⟨y,hy,rfl⟩
   obtain ⟨u,_,hu⟩:=List.mem_map.1 this
   exact ⟨u,hu.symm⟩
  obtain ⟨u,hu⟩:=hsome
  rw [hu,this u hu]
 have hx':ev σ'.T x=some (.fn g caps):=h1 x (by simp [ho,Op.operands,Call.operands]) _ hx
 refine qhn (T:=σ'.T) (O:=σ'.O) B ho hdN hen hx' hxs' (hcv σ'.O) qle.nil hAC ?_ ?_ ?_
 ·rintro r O' ⟨_,rfl⟩ l hl
  obtain ⟨p,hp,rfl⟩:=qmO hl
  right;simp only [inD,h3 p hp (by simp)];rfl
 ·rintro rfl r O' ⟨rfl,rfl⟩;simpa using hq
 ·rintro r O' ⟨rfl,rfl⟩;cases o.dst<;>rfl
end
mutual
/-- v may be told az v'. -/
inductive Le:AV→AV→Prop where
 | refl {v:AV}:Le v v
 | nil {f:Bool} {k:Nat}:Le (.imm (.slice none 0 0)) (.dat f k [])
 | agg {cs ds:List AV} (h:LeL cs ds):Le (.agg cs) (.agg ds)
 | tup {cs ds:List AV} (h:LeL cs ds):Le (.tup cs) (.tup ds)
inductive LeL:List AV→List AV→Prop where
 | nil:LeL [] []
 | cons {v u:AV} {vs us:List AV} (h:Le v u) (r:LeL vs us):LeL (v::vs) (u::us)
end
theorem LeL.refl:∀ vs:List AV,LeL vs vs
 | []=>.nil
 | v::vs=>.cons .refl (LeL.refl vs)
theorem LeL.length:∀ {vs us:List AV},LeL vs us→vs.length=us.length
 | _,_,.nil=>rfl
 | _,_,.cons _ r=>by simp [r.length]
mutual
theorem Le.rep {w:World}{ρ:Nat→Value}{S:Bool→Nat→Prop}{U:Nat→Prop}:∀ {v u:AV},Le v u→∀ {x:Value},Rep w ρ S U v x→Rep w ρ S U u x
 | _,_,.refl,_,h=>h
 | _,_,.nil,x,h=>by
   simp only [Rep] at h
   subst h
   simp only [Rep,RepD]
   exact ⟨none,0,0,rfl,rfl,Nat.le_refl _,Nat.zero_le _,.inl E⟩
 | _,_,.agg hl,x,h=>by
   simp only [Rep] at h ⊢
   obtain ⟨xs,h1,h2,h3⟩:=h
   exact ⟨xs,h1,h2,hl.rep h3⟩
 | _,_,.tup hl,x,h=>by
   simp only [Rep] at h ⊢
   obtain ⟨xs,h1,h3⟩:=h
   exact ⟨xs,h1,hl.rep h3⟩
theorem LeL.rep {w:World}{ρ:Nat→Value}{S:Bool→Nat→Prop}{U:Nat→Prop}:∀ {vs us:List AV},LeL vs us→∀ {xs:List Value},RepL w ρ S U vs xs→RepL w ρ S U us xs
 | _,_,.nil,_,h=>h
 | _,_,.cons hv r,xs,h=>by
   simp only [RepL] at h ⊢
   obtain ⟨y,ys,h1,h2,h3⟩:=h
   exact ⟨y,ys,h1,hv.rep h2,r.rep h3⟩
end
theorem LeL.argT:∀ {vs us:List AV} (_:LeL vs us) (i t:Nat) (u:AV),lk (argT i us) t=some u→∃ v,lk (argT i vs) t=some v∧Le v u
 | _,_,.nil,i,t,u,h=>by simp [Go.Proofs.YtpgceiijoedppaaGreat.argT,lk] at h
 | _,_,.cons (v:=v) hv r,i,t,u,h=>by
   simp only [Go.Proofs.YtpgceiijoedppaaGreat.argT,qcm] at h ⊢
   split at h
   ·rename_i e;cases h;rw [if_pos e];exact ⟨v,rfl,hv⟩
   ·rename_i e;rw [if_neg e];exact r.argT _ _ _ h
theorem AC_le {f:FuncId}{args args':List AV}{Post:AV→List (Nat×Ob)→Prop}(hl:LeL args args')(h:ACx m P f args' O Post):ACx m P f args O Post:=by
 intro c w vs ρ S h0 h1 h2 hD hc
 refine h c w vs ρ S h0 h1 h2 hD ?_
 rw [← hl.length]
 exact ⟨hc.tm,hc.df,fun t u hu=>by
  obtain ⟨v,hv,hle⟩:=hl.argT 0 t u hu
  exact hle.rep (hc.T t v hv),hc.O,hc.dj,hc.dS,hc.wr,hc.lt,hc.SS,hc.Sb,hc.Sn,hc.So,hc.lo,hc.fm⟩
theorem AC_leR {f:FuncId}{args:List AV}{v v':AV}(hl:Le v v')(h:ACx m P f args O (fun r O'=>r=v∧O'=O1)):ACx m P f args O (fun r O'=>r=v'∧O'=O1):=by
 intro c w vs ρ S h0 h1 h2 hD hc
 refine (h c w vs ρ S h0 h1 h2 hD hc).mono ?_
 rintro e w' ⟨x,r,O',he,⟨rfl,rfl⟩,ρ',S',k⟩
 refine ⟨x,v',_,he,⟨rfl,rfl⟩,ρ',S',k.tm,k.df,fun t u hu=>?_,k.O,k.dj,k.dS,k.wr,k.lt,k.SS,k.Sb,k.Sn,k.So,k.lo,k.fm⟩
 simp only [qcm] at hu
 split at hu
 ·rename_i e;subst e;cases hu
  exact hl.rep (k.T 0 _ E)
 ·simp [lk] at hu
theorem qh2 {f:FuncId}{args:List AV}{Post Post':AV→List (Nat×Ob)→Prop}(h:ACx m P f args O Post)(hp:∀ r O',Post r O'→∃ r',Le r r'∧Post' r' O'):ACx m P f args O Post':=by
 intro c w vs ρ S h0 h1 h2 hD hc
 refine (h c w vs ρ S h0 h1 h2 hD hc).mono ?_
 rintro e w' ⟨x,r,O',he,hP,ρ',S',k⟩
 obtain ⟨r',hl,hP'⟩:=hp r O' hP
 refine ⟨x,r',_,he,hP',ρ',S',k.tm,k.df,fun t u hu=>?_,k.O,k.dj,k.dS,k.wr,k.lt,k.SS,k.Sb,k.Sn,k.So,k.lo,k.fm⟩
 simp only [qcm] at hu
 split at hu
 ·rename_i e;subst e;cases hu
  exact hl.rep (k.T 0 _ E)
 ·simp [lk] at hu
end Go.Proofs.YtpgceiijoedppaaGreat
namespace Go.Proofs.YtpgceiijoedppaaGreat
open Go
variable {X:Type}{fs:List (TypeId×Nat×Nat)}{k n total:Nat}{t:TypeId}{toD:X→List D}
theorem qnU {α β:Type}{f:α→Option β}:∀ {l:List α} {r:List β},l.mapM f=some r→r.length=l.length∧∀ (i:Nat) (x:α),l[i]?=some x→f x=r[i]?
 | [],r,h=>by simp at h;subst h;simp
 | a::l,r,h=>by
   simp only [List.mapM_cons,Option.bind_eq_bind,Option.bind_eq_some_iff,Option.pure_def,Option.some.injEq] at h
   obtain ⟨b,hb,bs,hbs,rfl⟩:=h
   obtain ⟨h1,h2⟩:=qnU hbs
   refine ⟨by simp [h1],fun i x hx=>?_⟩
   cases i with
   | zero=>simp only [List.getElem?_cons_zero,Option.some.injEq] at hx;subst hx;simpa using hb
   | succ i=>simpa using h2 i x (by simpa using hx)
def qdU (w:World)(S:Nat→Prop):List D→List Value→Prop
 | [],vs=>vs=[]
 | d::ds,vs=>∃ v us,vs=v::us∧v.oneCell'=true∧RepD w false S d v∧qdU w S ds us
theorem qdU.length {w:World}{S:Nat→Prop}:∀ {ds:List D} {vs:List Value},qdU w S ds vs→vs.length=ds.length
 | [],vs,h=>by simp only [qdU] at h;simp [h]
 | d::ds,vs,h=>by
   simp only [qdU] at h
   obtain ⟨v,us,rfl,_,_,h⟩:=h
   simp [qdU.length h]
theorem qdU.append {w:World}{S:Nat→Prop}:∀ {ds es:List D} {vs us:List Value},qdU w S ds vs→qdU w S es us→qdU w S (ds++es) (vs++us)
 | [],es,vs,us,h,k=>by simp only [qdU] at h;simpa [h] using k
 | d::ds,es,vs,us,h,k=>by
   simp only [qdU] at h
   obtain ⟨v,xs,rfl,h1,h2,h3⟩:=h
   simp only [List.cons_append,qdU]
   exact ⟨v,xs++us,rfl,h1,h2,qdU.append h3 k⟩
theorem qdU.cs {w:World}{S:Nat→Prop}{b:Nat}:∀ {ds:List D} {vs:List Value} {off:Nat},qdU w S ds vs→(∀ (i:Nat) (v:Value),vs[i]?=some v→w.cell? ⟨b,off+i,none⟩=some v)→qbX w false S b off ds
 | [],vs,off,_,_=>by simp [qbX]
 | d::ds,vs,off,h,k=>by
   simp only [qdU] at h
   obtain ⟨v,us,rfl,h1,h2,h3⟩:=h
   simp only [qbX]
   exact ⟨⟨v,by simpa using k 0 v E,h1,h2⟩,qdU.cs h3 fun i u hu=>by have:=k (i+1) u (by simpa using hu);rwa [show off+(i+1)=off+1+i by omega] at this⟩
theorem qdU.rep {w:World}{ρ:Nat→Value}{S:Bool→Nat→Prop}{U:Nat→Prop}:∀ {ds:List D} {vs:List Value},qdU w (S false) ds vs→RepL w ρ S U (lift false ds) vs∧∀ y∈vs,y.oneCell'=true
 | [],vs,h=>by simp only [qdU] at h;subst h;simp [lift,RepL]
 | d::ds,vs,h=>by
   simp only [qdU] at h
   obtain ⟨v,us,rfl,h1,h2,h3⟩:=h
   obtain ⟨h4,h5⟩:=qdU.rep (ρ:=ρ) (U:=U) h3
   refine ⟨?_,fun y hy=>?_⟩
   ·simp only [lift,List.map_cons,RepL]
    refine ⟨v,us,rfl,?_,h4⟩
    cases d with
    | imm x=>simpa [D.av,Rep,RepD] using h2
    | sl k es=>simpa only [D.av,Rep] using h2
   ·rcases List.mem_cons.1 hy with rfl|hy
    ·exact h1
    ·exact h5 y hy
abbrev Here (w:World):Nat→Prop:=fun b=>b<w.heap.size
section
variable (P:Program)(w:World)
structure Rdr {X:Type}(n:Nat)(t:TypeId)(k:Nat)(toD:X→List D)(wf:X→Prop):Prop where
 len:∀ x,(toD x).length=k
 rd:∀ (H:Type) (enc:TypeId×Value→H) (cs:List Value) (d:DataW H) (ps:List MemPlace),DataW.trod enc P w 0 (fun _=>true) true n t cs=some (d,ps)→(d.weights P t).all (·≤reachBytes)=true→∃ x,wf x∧qdU w (Here w) (toD x) cs
end
section
variable {P:Program}{w:World}
theorem Rdr.zero {wf:X→Prop}(h:∀ x,(toD x).length=k):Rdr P w 0 t k toD wf:=⟨h,fun H enc cs d ps e=>by simp [DataW.trod] at e⟩
theorem Rdr.mono {wf wf':X→Prop}(h:Rdr P w n t k toD wf)(hw:∀ x,wf x→wf' x):Rdr P w n t k toD wf':=
 ⟨h.len,fun H enc cs d ps e hz=>by obtain ⟨x,h1,h2⟩:=h.rd H enc cs d ps e hz;exact ⟨x,hw x h1,h2⟩⟩
theorem Rdr.int (ht:P.underlying t=some (.int .i64)):Rdr P w n t 1 (fun x:Int=>[.imm (.int .i64 x)]) (fun x=>-9223372036854775808≤x∧x≤9223372036854775807):=by
 refine ⟨fun _=>rfl,fun H enc cs d ps e hz=>?_⟩
 obtain ⟨m,rfl,_,h3⟩:=DataW.trod_int ht e
 simp only [Lit.wf,Bool.and_eq_true,decide_eq_true_eq] at h3
 refine ⟨m,h3,?_⟩
 simp only [qdU,RepD];exact ⟨_,_,rfl,rfl,rfl,rfl⟩
theorem Rdr.str (ht:P.underlying t=some .string):Rdr P w n t 1 (fun x:ByteArray=>[.imm (.string x)]) (fun x=>x.size≤140737488351232):=by
 refine ⟨fun _=>rfl,fun H enc cs d ps e hz=>?_⟩
 obtain ⟨s,rfl,h2,h3⟩:=DataW.trod_string ht e
 simp only [Prod.mk.injEq] at h2
 obtain ⟨rfl,rfl⟩:=h2
 refine ⟨s,?_,?_⟩
 ·have h4:=of_decide_eq_true (List.all_eq_true.1 hz s.data.toList.length (by simp [DataW.weights]))
  rw [Array.length_toList] at h4;exact h4
 ·simp only [qdU,RepD];exact ⟨_,_,rfl,rfl,rfl,rfl⟩
theorem qkR {X:Type}{Q:Nat→X→Prop}:∀ (n:Nat),(∀ i,i<n→∃ x,Q i x)→∃ l:List X,l.length=n∧∀ (i:Nat) (x:X),l[i]?=some x→Q i x
 | 0,_=>⟨[],rfl,fun i x h=>by simp at h⟩
 | n+1,h=>by
   obtain ⟨l,h1,h2⟩:=qkR (X:=X) (Q:=Q) n fun i hi=>h i (by omega)
   obtain ⟨x,hx⟩:=h n (by omega)
   refine ⟨l++[x],by simp [h1],fun i y hy=>?_⟩
   rw [List.getElem?_append] at hy
   split at hy
   ·exact h2 i y hy
   ·have:i=n:=by
     by_cases hi:i-l.length=0
     ·omega
     ·rw [List.getElem?_eq_none (by simp;omega)] at hy;cases hy
    subst this
    rw [show i-l.length=0 by omega] at hy
    simp only [List.getElem?_cons_zero,Option.some.injEq] at hy
    subst hy;exact hx
theorem qcK.of {S:Nat→Prop}{b k:Nat}:∀ {es:List (List D)} {off:Nat},(∀ (i:Nat) (ds:List D),es[i]?=some ds→ds.length=k∧qbX w false S b (off+i*k) ds)→qcK w false S b k off es
 | [],off,_=>by simp [qcK]
 | e::es,off,h=>by
   simp only [qcK]
   refine ⟨by simpa using h 0 e E,qcK.of fun i ds hd=>?_⟩
   have:=h (i+1) ds (by simpa using hd)
   rwa [show off+(i+1)*k=off+k+i*k by rw [Nat.succ_mul];omega] at this
theorem qk8 {a:Addr}{cs:List Value}(h:w.cells? 0 a n=some cs):cs.length=n∧∀ j,j<n→w.cell? (a.add j)=cs[j]?:=by
 unfold World.cells? at h
 rw [if_pos (Nat.zero_le _)] at h
 obtain ⟨h1,h2⟩:=qnU h
 refine ⟨by simpa using h1,fun j hj=>h2 j j (by simp [hj])⟩
theorem qhT {H:Type}{e:TypeId}:∀ {l:List (DataW H)},(DataW.weightsAll P e l).all (·≤reachBytes)=true→∀ {i:Nat} {d:DataW H},l[i]?=some d→(d.weights P e).all (·≤reachBytes)=true
 | [],_,i,d,h=>by simp at h
 | x::l,hz,i,d,h=>by
   simp only [DataW.weightsAll,List.all_append,Bool.and_eq_true] at hz
   cases i with
   | zero=>simp only [List.getElem?_cons_zero,Option.some.injEq] at h;subst h;exact hz.1
   | succ i=>exact qhT hz.2 (by simpa using h)
theorem Rdr.slice {e:TypeId}{wf:X→Prop}(ht:slB P t e k=true)(hk:0<k)(he:∀ m,m<n→Rdr P w m e k toD wf):Rdr P w n t 1 (fun l:List X=>[.sl k (l.map toD)]) (fun l=>l.length*P.bytesOf e≤140737488351232∧∀ x∈l,wf x):=by
 refine ⟨fun _=>rfl,fun H enc cs d ps h hz=>?_⟩
 obtain ⟨inf,hu,hi,hs⟩:=qcL ht
 have hcell:P.cellsOf e=k:=by unfold Program.cellsOf;rw [hi];exact hs
 rcases DataW.trod_slice hu h with ⟨rfl,h2⟩|⟨a,len,cap,elems,rest,m,rfl,rfl,h2,_,hlc,hcm,hel,helems,_⟩
 ·refine ⟨[],⟨by simp,by simp⟩,?_⟩
  simp only [qdU,RepD,List.map_nil]
  exact ⟨_,_,rfl,rfl,⟨none,0,0,rfl,rfl,Nat.le_refl _,Nat.zero_le _,.inl E⟩,rfl⟩
 ·rw [hcell] at helems
  simp only [Prod.mk.injEq] at h2
  obtain ⟨rfl,_⟩:=h2
  simp only [DataW.weights,hu,List.all_cons,List.all_append,Bool.and_eq_true,decide_eq_true_eq,List.length_map] at hz
  obtain ⟨hz1,hz2,_⟩:=hz
  obtain ⟨l,hl,hQ⟩:=qkR (X:=X) (Q:=fun i x=>wf x∧∃ cs,w.cells? 0 (a.add (i*k)) k=some cs∧qdU w (Here w) (toD x) cs) len fun i hi=>by
   have h3:=helems i hi
   have h4:elems[i]?=some (elems[i]'(by omega)):=by simp [show i<elems.length by omega]
   rw [h4] at h3
   obtain ⟨csi,h5,h6⟩:=Option.bind_eq_some_iff.1 h3
   obtain ⟨x,h7,h8⟩:=(he m (by omega)).rd H enc csi _ _ h6 (qhT hz2 (i:=i) (by rw [List.getElem?_map,h4];rfl))
   exact ⟨x,h7,csi,h5,h8⟩
  refine ⟨l,⟨?_,fun x hx=>?_⟩,?_⟩
  ·have:l.length*P.bytesOf e≤(elems.length+rest.length)*P.bytesOf e:=Nat.mul_le_mul_right _ (by omega)
   simp only [reachBytes] at hz1;omega
  ·obtain ⟨i,hi⟩:=List.getElem?_of_mem hx
   exact (hQ i x hi).1
  ·simp only [qdU,RepD]
   refine ⟨_,_,rfl,rfl,⟨some a,len,cap,rfl,by simp [hl],hlc,hcm,?_⟩,rfl⟩
   by_cases h0:len=0
   ·exact .inl h0
   ·right
    have hx0:l[0]?=some (l[0]'(by omega)):=by simp [show 0<l.length by omega]
    obtain ⟨_,cs0,h3,_⟩:=hQ 0 _ hx0
    obtain ⟨_,h5⟩:=qk8 h3
    have h6:=h5 0 hk
    have e1:(a.add (0*k)).add 0=a:=by simp [Addr.add]
    rw [e1] at h6
    have hlen0:=(qk8 h3).1
    have h7:cs0[0]?=some (cs0[0]'(by omega)):=by simp [show 0<cs0.length by omega]
    rw [h7] at h6
    have hsp:a.spot=none∧a.block<w.heap.size:=by
     unfold World.cell? at h6
     split at h6
     ·rename_i c ty fr hb
      refine ⟨?_,(Array.getElem?_eq_some_iff.1 hb).1⟩
      split at h6
      ·cases h6
      ·rename_i hh;simpa using hh
     ·cases h6
    obtain ⟨ab,ao,as_⟩:=a
    simp only at hsp
    obtain ⟨rfl,hlt⟩:=hsp
    refine ⟨ab,ao,rfl,hlt,fun h=>(by cases h),qcK.of fun i ds hds=>?_⟩
    rw [List.getElem?_map] at hds
    obtain ⟨x,hx,rfl⟩:=Option.map_eq_some_iff.1 hds
    obtain ⟨_,csi,h8,h9⟩:=hQ i x hx
    obtain ⟨h10,h11⟩:=qk8 h8
    have hlx:(toD x).length=k:=by rw [← h9.length];exact h10
    refine ⟨hlx,h9.cs fun j v hv=>?_⟩
    have hj:j<k:=by have:=(List.getElem?_eq_some_iff.1 hv).1;omega
    have:=h11 j hj
    rw [qcq,qcq] at this
    rw [this];exact hv
structure RdrF {X:Type}(P:Program)(w:World)(n:Nat)(off:Nat)(fs:List (TypeId×Nat×Nat))(total:Nat)(toD:X→List D)(wf:X→Prop):Prop where
 len:∀ x,(toD x).length=total
 rd:∀ (H:Type) (enc:TypeId×Value→H) (cs:List Value) (xs:List (DataW H×List MemPlace)),xs.length=fs.length→(∀ (i:Nat) (f:TypeId×Nat×Nat),fs[i]?=some f→DataW.trod enc P w 0 (fun _=>true) true n f.1 ((cs.drop f.2.1).take f.2.2)=xs[i]?)→(DataW.weightsEach P (fs.map (·.1)) (xs.map (·.1))).all (·≤reachBytes)=true→∃ x,wf x∧qdU w (Here w) (toD x) ((cs.drop off).take total)
theorem RdrF.nil {off:Nat}:RdrF P w n off [] 0 (fun _:Unit=>[]) (fun _=>True):=
 ⟨fun _=>rfl,fun H enc cs xs _ _ _=>⟨(),trivial,by simp [qdU]⟩⟩
theorem RdrF.cons {Y:Type}{off r:Nat}{wf:X→Prop}{toE:Y→List D}{wg:Y→Prop}(h:Rdr P w n t k toD wf)(hr:RdrF P w n (off+k) fs r toE wg):RdrF P w n off ((t,off,k)::fs) (k+r) (fun p:X×Y=>toD p.1++toE p.2) (fun p=>wf p.1∧wg p.2):=by
 refine ⟨fun p=>by simp [h.len,hr.len],fun H enc cs xs hl hx hz=>?_⟩
 cases xs with
 | nil=>simp at hl
 | cons x xs=>
   simp only [List.map_cons,DataW.weightsEach,List.all_append,Bool.and_eq_true] at hz
   have h0:=hx 0 _ E
   simp only [List.getElem?_cons_zero] at h0
   obtain ⟨a,h1,h2⟩:=h.rd H enc _ _ _ h0 hz.1
   obtain ⟨b,h3,h4⟩:=hr.rd H enc cs xs (by simpa using hl) (fun i f hf=>by have:=hx (i+1) f (by simpa using hf);simpa using this) hz.2
   refine ⟨(a,b),⟨h1,h3⟩,?_⟩
   have e:(cs.drop off).take (k+r)=(cs.drop off).take k++(cs.drop (off+k)).take r:=by
    rw [List.take_add,List.drop_drop]
   rw [e]
   exact h2.append h4
def stB (P:Program)(t:TypeId)(l:List (TypeId×Nat×Nat))(total:Nat):Bool:=
 match P.underlying t with
 | some (.struct fs)=>(fs.toList.map fun f=>(f.type,f.offset,P.cellsOf f.type))==l&&P.cellsOf t==total
 | _=>false
theorem qhw (ht:stB P t fs total=true):∃ gs,P.underlying t=some (.struct gs):=by
 unfold stB at ht
 split at ht
 ·rename_i gs hu;exact ⟨gs,hu⟩
 ·cases ht
theorem Rdr.struct {wf:X→Prop}(ht:stB P t fs total=true)(hl:∀ x,(toD x).length=total)(h:∀ m,m<n→RdrF P w m 0 fs total toD wf):Rdr P w n t total toD wf:=by
 refine ⟨hl,fun H enc cs d ps e hz=>?_⟩
 unfold stB at ht
 split at ht
 ·rename_i gs hu
  simp only [Bool.and_eq_true,beq_iff_eq] at ht
  obtain ⟨rfl,hc⟩:=ht
  obtain ⟨xs,m,rfl,h2,h3,h4,h5⟩:=DataW.trod_struct hu e
  simp only [Prod.mk.injEq] at h2
  obtain ⟨rfl,_⟩:=h2
  simp only [DataW.weights,hu] at hz
  obtain ⟨x,h6,h7⟩:=(h m (by omega)).rd H enc cs xs (by simpa using h4) (fun i f hf=>by
   rw [List.getElem?_map] at hf
   obtain ⟨g,hg,rfl⟩:=Option.map_eq_some_iff.1 hf
   exact h5 i g (by simpa using hg)) (by simpa [List.map_map,Function.comp_def] using hz)
  refine ⟨x,h6,?_⟩
  rwa [List.drop_zero,List.take_of_length_le (by omega)] at h7
 ·cases ht
theorem Rdr.map {Y:Type}{wf:X→Prop}{toE:Y→List D}{wg:Y→Prop}(g:X→Y)(h:Rdr P w n t k toD wf)(hl:∀ y,(toE y).length=k)(hD:∀ x,wf x→toE (g x)=toD x)(hw:∀ x,wf x→wg (g x)):Rdr P w n t k toE wg:=
 ⟨hl,fun H enc cs d ps e hz=>by
  obtain ⟨x,h1,h2⟩:=h.rd H enc cs d ps e hz
  exact ⟨g x,hw x h1,by rw [hD x h1];exact h2⟩⟩
end
end Go.Proofs.YtpgceiijoedppaaGreat
namespace Go.Proofs.YtpgceiijoedppaaGreat
open Go
structure Tm where
 kind:Int
 name:ByteArray
 n:Int
 args:List Tm
mutual
def tmD0:Tm→List D
 | ⟨k,nm,n,az⟩=>[.imm (.int .i64 k),.imm (.string nm),.imm (.int .i64 n),.sl 4 (tmDs az)]
def tmDs:List Tm→List (List D)
 | []=>[]
 | t::ts=>tmD0 t::tmDs ts
end
def tmD (t:Tm):List D:=[.imm (.int .i64 t.kind),.imm (.string t.name),.imm (.int .i64 t.n),.sl 4 (tmDs t.args)]
theorem qoG (t:Tm):tmD0 t=tmD t:=by cases t;simp only [tmD0,tmD]
theorem qeE:∀ ts:List Tm,tmDs ts=ts.map tmD
 | []=>by simp only [tmDs,List.map_nil]
 | t::ts=>by simp only [tmDs,List.map_cons,qoG,qeE ts]
theorem qaY (ts:List Tm):(tmDs ts).length=ts.length:=by simp [qeE]
theorem qbP {ts:List Tm}{i:Nat}{t:Tm}(h:ts[i]?=some t):(tmDs ts)[i]?=some (tmD t):=by simp [qeE,h]
theorem qqK (t:Tm):(tmD t).length=4:=rfl
abbrev tmA (f:Bool)(t:Tm):AV:=.agg (lift f (tmD t))
mutual
/-- What can be read az a term: its numbers are of their kind, its texts and lists are no longer than memory. -/
def Tm.wf0:Tm→Prop
 | ⟨k,nm,n,az⟩=>(-9223372036854775808≤k∧k≤9223372036854775807)∧nm.size≤140737488351232∧(-9223372036854775808≤n∧n≤9223372036854775807)∧az.length*56≤140737488351232∧Tm.wfs az
def Tm.wfs:List Tm→Prop
 | []=>True
 | t::ts=>t.wf0∧Tm.wfs ts
end
def Tm.wf (t:Tm):Prop:=(-9223372036854775808≤t.kind∧t.kind≤9223372036854775807)∧t.name.size≤140737488351232∧(-9223372036854775808≤t.n∧t.n≤9223372036854775807)∧t.args.length*56≤140737488351232∧Tm.wfs t.args
theorem Tm.wf0_iff (t:Tm):t.wf0↔t.wf:=by cases t;simp only [Tm.wf0,Tm.wf]
theorem Tm.wfs_get:∀ {ts:List Tm} {i:Nat} {t:Tm},Tm.wfs ts→ts[i]?=some t→t.wf
 | t::ts,0,u,h,hi=>by simp only [List.getElem?_cons_zero,Option.some.injEq] at hi;subst hi;simp only [Tm.wfs] at h;exact (Tm.wf0_iff t).1 h.1
 | t::ts,i+1,u,h,hi=>by simp only [Tm.wfs] at h;exact Tm.wfs_get h.2 (by simpa using hi)
end Go.Proofs.YtpgceiijoedppaaGreat