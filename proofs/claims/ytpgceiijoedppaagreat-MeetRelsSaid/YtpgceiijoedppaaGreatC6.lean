/- Part 6 of the proof: Datb, Datc, SymR, SymS. -/
import Derived.Test.YtpgceiijoedppaaGreatC5
import Derived.Lib.Overlaps
set_option linter.unusedVariables false
namespace Go.Proofs.YtpgceiijoedppaaGreat
open Go
variable {i:Nat}
structure Bd where
 name:ByteArray
 t:Tm
structure Gd where
 kind:Int
 l:Tm
 r:Tm
structure Cl where
 head:Tm
 body:List Tm
 guards:List Gd
abbrev i64 (n:Int):Prop:=-9223372036854775808≤n∧n≤9223372036854775807
def qbt {α:Type}(l:List α):Prop:=l.length≤140737488351232
def Bd.wf (b:Bd):Prop:=b.name.size≤140737488351232∧b.t.wf
def Gd.wf (g:Gd):Prop:=i64 g.kind∧g.l.wf∧g.r.wf
def Cl.wf (c:Cl):Prop:=c.head.wf∧(qbt c.body∧Tm.wfs c.body)∧(qbt c.guards∧∀ g∈c.guards,g.wf)
def bdD (b:Bd):List D:=.imm (.string b.name)::tmD b.t
def bdDs (l:List Bd):List (List D):=l.map bdD
theorem qaR (l:List Bd):(bdDs l).length=l.length:=by simp [bdDs]
theorem qbj {l:List Bd}{b:Bd}(h:l[i]?=some b):(bdDs l)[i]?=some (bdD b):=by simp [bdDs,h]
structure Ask11 where
 C:List Cl
 K:List Tm
 T:List Tm
structure Ask12 where
 K:Ask11
 B:List (List Bd)
 G:List Gd
def Ask11.wf (p:Ask11):Prop:=(qbt p.C∧∀ c∈p.C,c.wf)∧(qbt p.K∧Tm.wfs p.K)∧(qbt p.T∧Tm.wfs p.T)
def Ask12.wf (p:Ask12):Prop:=p.K.wf∧(qbt p.B∧∀ l∈p.B,qbt l∧∀ b∈l,b.wf)∧(qbt p.G∧∀ g∈p.G,g.wf)
structure Ft where
 t:Tm
 fr:Int
 to:Int
structure Kp where
 seq:Int
 f:Ft
def Ft.wf (f:Ft):Prop:=f.t.wf∧i64 f.fr∧i64 f.to
def Kp.wf (k:Kp):Prop:=i64 k.seq∧k.f.wf
def spD (f:Ft):List D:=[.imm (.int .i64 f.fr),.imm (.int .i64 f.to)]
def ftD (f:Ft):List D:=tmD f.t++spD f
def kpD (k:Kp):List D:=.imm (.int .i64 k.seq)::ftD k.f
def kpDs (l:List Kp):List (List D):=l.map kpD
def inDs (l:List Int):List (List D):=l.map fun x=>[.imm (.int .i64 x)]
theorem qc3 (l:List Kp):(kpDs l).length=l.length:=by simp [kpDs]
theorem qbH (l:List Int):(inDs l).length=l.length:=by simp [inDs]
theorem qby {l:List Kp}{b:Kp}(h:l[i]?=some b):(kpDs l)[i]?=some (kpD b):=by simp [kpDs,h]
theorem qfa {l:List Int}{b:Int}(h:l[i]?=some b):(inDs l)[i]?=some [.imm (.int .i64 b)]:=by simp [inDs,h]
abbrev ftA (f:Ft):AV:=.agg (lift false (ftD f))
structure Ask9 where
 L:List Kp
 F:List Ft
 N:List Int
def Ask9.wf (p:Ask9):Prop:=(qbt p.L∧∀ k∈p.L,k.wf)∧(qbt p.F∧∀ f∈p.F,f.wf)∧(qbt p.N∧∀ n∈p.N,i64 n)
end Go.Proofs.YtpgceiijoedppaaGreat
set_option linter.unusedSimpArgs false
namespace Go.Proofs.YtpgceiijoedppaaGreat
open Go
mutual
def AV.ut:AV→AV
 | .dat _ k es=>.dat false k es
 | .elp _ cs=>.elp false cs
 | .agg cs=>.agg (AV.uts cs)
 | .fn f cs=>.fn f (AV.uts cs)
 | .tup cs=>.tup (AV.uts cs)
 | v=>v
def AV.uts:List AV→List AV
 | []=>[]
 | v::vs=>AV.ut v::AV.uts vs
end
theorem qih (f:Bool):∀ ds:List D,AV.uts (lift f ds)=lift false ds
 | []=>rfl
 | d::ds=>by
   have:=qih f ds
   simp only [lift,List.map_cons,AV.uts] at this ⊢
   rw [this];cases d<;>rfl
def Ob.ut:Ob→Ob
 | .box cs=>.box (AV.uts cs)
 | .row e k cs=>.row e k (AV.uts cs)
 | .rowd e k _ es=>.rowd e k false es
 | .mp P k ks=>.mp P k ks
 | .dead=>.dead
 | .arr e k _ es=>.arr e k false es
 | .mx it P k kvs cur=>.mx it P k kvs cur
def utT:List (Nat×AV)→List (Nat×AV)
 | []=>[]
 | (t,v)::T=>(t,v.ut)::utT T
def utO:List (Nat×Ob)→List (Nat×Ob)
 | []=>[]
 | (t,v)::T=>(t,v.ut)::utO T
theorem lk_utT:∀ (T:List (Nat×AV)) (t:Nat),lk (utT T) t=(lk T t).map AV.ut
 | [],t=>rfl
 | (s,v)::T,t=>by
   simp only [utT,qcm]
   split
   ·rfl
   ·exact lk_utT T t
theorem qr2:∀ (T:List (Nat×Ob)) (t:Nat),ok (utO T) t=(ok T t).map Ob.ut
 | [],t=>rfl
 | (s,v)::T,t=>by
   simp only [utO,qa0]
   split
   ·rfl
   ·exact qr2 T t
def utS (S:Bool→Nat→Prop):Bool→Nat→Prop:=fun g b=>g=false∧(S true b∨S false b)
theorem qnr {S:Bool→Nat→Prop}{f:Bool}{b:Nat}(h:S f b):utS S false b:=⟨rfl,by cases f<;>simp [h]⟩
mutual
theorem Rep.ut {w:World}{ρ:Nat→Value}{S:Bool→Nat→Prop}{U:Nat→Prop}:∀ (v:AV) (x:Value),Rep w ρ S U v x→Rep w ρ (utS S) U v.ut x
 | .any,x,h=>by simp [AV.ut,Rep]
 | .imm v,x,h=>by simpa [AV.ut,Rep] using h
 | .dat f k es,x,h=>by
   simp only [AV.ut,Rep] at h ⊢
   exact RepD.mono (F':=false) (S':=utS S false) (fun e=>by cases e) (fun b hb=>qnr hb) (fun _ _=>rfl) _ _ h
 | .agg cs,x,h=>by
   simp only [AV.ut,Rep] at h ⊢
   obtain ⟨xs,hx,h1,h⟩:=h
   exact ⟨xs,hx,h1,RepL.ut cs xs h⟩
 | .ptr l off,x,h=>by simpa only [AV.ut,Rep] using h
 | .elp f cs,x,h=>by
   simp only [AV.ut,Rep] at h ⊢
   obtain ⟨b,off,hx,hb,h⟩:=h
   exact ⟨b,off,hx,qnr hb,qbX.mono (F':=false) (S':=utS S false) (fun e=>by cases e) (fun b hb=>qnr hb) (fun _ _=>rfl) b hb off cs h⟩
 | .row l,x,h=>by simpa only [AV.ut,Rep] using h
 | .fn f cs,x,h=>by
   simp only [AV.ut,Rep] at h ⊢
   obtain ⟨xs,hx,h⟩:=h
   exact ⟨xs,hx,RepL.ut cs xs h⟩
 | .map l,x,h=>by simpa only [AV.ut,Rep] using h
 | .tup cs,x,h=>by
   simp only [AV.ut,Rep] at h ⊢
   obtain ⟨xs,hx,h⟩:=h
   exact ⟨xs,hx,RepL.ut cs xs h⟩
 | .vw l off n c,x,h=>by simpa only [AV.ut,Rep] using h
theorem RepL.ut {w:World}{ρ:Nat→Value}{S:Bool→Nat→Prop}{U:Nat→Prop}:∀ (vs:List AV) (xs:List Value),RepL w ρ S U vs xs→RepL w ρ (utS S) U (AV.uts vs) xs
 | [],xs,h=>by simpa [AV.uts,RepL] using h
 | v::vs,xs,h=>by
   simp only [AV.uts,RepL] at h ⊢
   obtain ⟨y,ys,hx,h1,h2⟩:=h
   exact ⟨y,ys,hx,Rep.ut v y h1,RepL.ut vs ys h2⟩
end
theorem qi6 {o:Ob}(h:o.ut.live):o.live:=by cases o<;>exact h
section
variable {P:Program}{c:Ctx}{N:Nat}{Q:Exit→St→Prop}{σ:St}{o:Oper}
theorem U_ut {T:List (Nat×AV)}{O:List (Nat×Ob)}(m:Nat)(h:St.U ⟨T,O⟩ m):St.U ⟨utT T,utO O⟩ m:=by
 simp only [St.U,qr2] at h ⊢
 simpa using h
theorem qdi {T:List (Nat×AV)}{O:List (Nat×Ob)}(hQ:∀ b,¬ c.Q b):Sub c N ⟨T,O⟩ ⟨utT T,utO O⟩:=by
 rintro a w ⟨ρ,S,hc⟩
 have hsp:∀ m om,ok (utO O) m=some om→∃ om',ok O m=some om'∧om=om'.ut:=fun m om hm=>by
  rw [qr2] at hm
  obtain ⟨om',h2,h3⟩:=Option.map_eq_some_iff.1 hm
  exact ⟨om',h2,h3.symm⟩
 refine ⟨ρ,utS S,⟨hc.tm,hc.df,fun t v ht=>?_,fun m om hm=>?_,fun m m' om om' b h2 h3 h4 h5 h6 h7=>?_,fun m om b g h2 h3 h4 h5=>?_,fun m om b h2 h3 h4=>?_,fun m om b h2 h3 h4=>?_,?_,?_,?_,?_,fun m hm=>?_,hc.fm.mono (fun g b h=>⟨false,qnr h⟩) (fun b h=>(by cases h.1))⟩⟩
 ·rw [show (St.mk (utT T) (utO O)).T=utT T from rfl,lk_utT] at ht
  obtain ⟨v0,hv0,rfl⟩:=Option.map_eq_some_iff.1 ht
  exact ((hc.T t v0 hv0).ut).mono (fun _ _ h=>h) (fun _ _ _=>rfl) U_ut (fun _ _=>rfl)
 ·obtain ⟨om',h2,rfl⟩:=hsp m om hm
  have hob:=hc.O m om' h2
  cases om' with
  | box cs=>
    obtain ⟨b,ty,ys,h3,h4,h5,h6⟩:=hob
    exact ⟨b,ty,ys,h3,h4,h5,(h6.ut).mono (fun _ _ h=>h) (fun _ _ _=>rfl) U_ut (fun _ _=>rfl)⟩
  | row e k cs=>
    obtain ⟨n,xs,h1,h2,h3⟩:=hob
    exact ⟨n,xs,h1,h2,(h3.ut).mono (fun _ _ h=>h) (fun _ _ _=>rfl) U_ut (fun _ _=>rfl)⟩
  | rowd e k f es=>
    obtain ⟨h0,xs,h1,h2,h3⟩:=hob
    have h3:=h3.ut
    rw [qih] at h3
    exact ⟨h0,xs,h1,h2,h3.mono (fun _ _ h=>h) (fun _ _ _=>rfl) U_ut (fun _ _=>rfl)⟩
  | mp P k ks=>exact hob
  | dead=>trivial
  | arr e k f es=>
    obtain ⟨b,xs,h1,h2,h3,h4,h5⟩:=hob
    refine ⟨b,xs,h1,h2,h3,h4,fun i d hd=>⟨(h5 i d hd).1,?_,(h5 i d hd).2.2⟩⟩
    have h6:=(h5 i d hd).2.1.ut
    rw [qih] at h6
    exact h6.mono (fun _ _ h=>h) (fun _ _ _=>rfl) U_ut (fun _ _=>rfl)
  | mx it P k kvs cur=>
    simp only [Ob.ut,ObOk] at hob ⊢
    exact hob.mono (fun b hb=>qnr hb) (fun _ _=>rfl) (fun _ _=>rfl)
 ·obtain ⟨o1,k1,rfl⟩:=hsp m om h2
  obtain ⟨o2,k2,rfl⟩:=hsp m' om' h3
  exact hc.dj m m' o1 o2 b k1 k2 (qi6 h4) (qi6 h5) h6 h7
 ·obtain ⟨o1,k1,rfl⟩:=hsp m om h2
  rcases h5.2 with h5|h5
  ·exact hc.dS m o1 b _ k1 (qi6 h3) h4 h5
  ·exact hc.dS m o1 b _ k1 (qi6 h3) h4 h5
 ·obtain ⟨o1,k1,rfl⟩:=hsp m om h2
  exact hc.wr m o1 b k1 (qi6 h3) h4
 ·obtain ⟨o1,k1,rfl⟩:=hsp m om h2
  exact hc.lt m o1 b k1 (qi6 h3) h4
 ·rintro b ⟨h2,h3⟩;cases h2.1
 ·rintro g b ⟨_,h2|h2⟩
  ·exact hc.Sb _ b h2
  ·exact hc.Sb _ b h2
 ·rintro b h2;cases h2.1
 ·rintro b ⟨_,h2|h2⟩
  ·exact .inr ((hc.Sn b h2).resolve_left (hQ b))
  ·exact hc.So b h2
 ·obtain ⟨h2,h3⟩:=hc.lo m hm
  exact ⟨U_ut m h2,h3⟩
mutual
def AV.hv:AV→AV
 | .dat f k es=>if f then .any else .dat f k es
 | .elp f cs=>if f then .any else .elp f cs
 | .agg cs=>.agg (AV.hvs cs)
 | .fn f cs=>.fn f (AV.hvs cs)
 | .tup cs=>.tup (AV.hvs cs)
 | v=>v
def AV.hvs:List AV→List AV
 | []=>[]
 | v::vs=>AV.hv v::AV.hvs vs
end
def Ob.hv:Ob→Ob
 | .box cs=>.box (AV.hvs cs)
 | .row e k cs=>.row e k (AV.hvs cs)
 | .rowd e k f es=>if f then .dead else .rowd e k f es
 | .mp P k ks=>.mp P k ks
 | .dead=>.dead
 | .arr e k f es=>if f then .dead else .arr e k f es
 | .mx it P k kvs cur=>.mx it P k kvs cur
def hvO:List (Nat×Ob)→List (Nat×Ob)
 | []=>[]
 | (t,v)::T=>(t,v.hv)::hvO T
def hvS (S:Bool→Nat→Prop):Bool→Nat→Prop:=fun g b=>g=false∧S false b
mutual
theorem Rep.hv {w w':World}{ρ:Nat→Value}{S:Bool→Nat→Prop}{U:Nat→Prop}(hw:∀ b,S false b→w'.heap[b]?=w.heap[b]?):∀ (v:AV) (x:Value),Rep w ρ S U v x→Rep w' ρ (hvS S) U v.hv x
 | .any,x,h=>by simp [AV.hv,Rep]
 | .imm v,x,h=>by simpa [AV.hv,Rep] using h
 | .dat f k es,x,h=>by
   cases f with
   | true=>simp [AV.hv,Rep]
   | false=>
     simp only [AV.hv,Rep] at h ⊢
     exact RepD.mono id (fun b hb=>⟨rfl,hb⟩) hw _ _ h
 | .agg cs,x,h=>by
   simp only [AV.hv,Rep] at h ⊢
   obtain ⟨xs,hx,h1,h⟩:=h
   exact ⟨xs,hx,h1,RepL.hv hw cs xs h⟩
 | .ptr l off,x,h=>by simpa only [AV.hv,Rep] using h
 | .elp f cs,x,h=>by
   cases f with
   | true=>simp [AV.hv,Rep]
   | false=>
     simp only [AV.hv,Rep] at h ⊢
     obtain ⟨b,off,hx,hb,h⟩:=h
     exact ⟨b,off,hx,⟨rfl,hb⟩,qbX.mono id (fun b hb=>⟨rfl,hb⟩) hw b hb off cs h⟩
 | .row l,x,h=>by simpa only [AV.hv,Rep] using h
 | .fn f cs,x,h=>by
   simp only [AV.hv,Rep] at h ⊢
   obtain ⟨xs,hx,h⟩:=h
   exact ⟨xs,hx,RepL.hv hw cs xs h⟩
 | .map l,x,h=>by simpa only [AV.hv,Rep] using h
 | .tup cs,x,h=>by
   simp only [AV.hv,Rep] at h ⊢
   obtain ⟨xs,hx,h⟩:=h
   exact ⟨xs,hx,RepL.hv hw cs xs h⟩
 | .vw l off n c,x,h=>by simpa only [AV.hv,Rep] using h
theorem RepL.hv {w w':World}{ρ:Nat→Value}{S:Bool→Nat→Prop}{U:Nat→Prop}(hw:∀ b,S false b→w'.heap[b]?=w.heap[b]?):∀ (vs:List AV) (xs:List Value),RepL w ρ S U vs xs→RepL w' ρ (hvS S) U (AV.hvs vs) xs
 | [],xs,h=>by simpa [AV.hvs,RepL] using h
 | v::vs,xs,h=>by
   simp only [AV.hvs,RepL] at h ⊢
   obtain ⟨y,ys,hx,h1,h2⟩:=h
   exact ⟨y,ys,hx,Rep.hv hw v y h1,RepL.hv hw vs ys h2⟩
end
end
end Go.Proofs.YtpgceiijoedppaaGreat
namespace Go.Proofs.YtpgceiijoedppaaGreat
open Go
variable {S:Bool→Nat→Prop}{ds:List (List D)}{e t:TypeId}{es:List (Option (List D))}{f:Bool}{i:Int}{k l n off q:Nat}{ops:Array Oper}{rest:List Oper}{w:World}{x y:Operand}{ρ:Nat→Value}
mutual
def AV.rp (l:Nat)(dr:AV)(dv:Nat→Nat→Nat→AV):AV→AV
 | .row m=>if m=l then dr else .row m
 | .ptr m off=>if m=l then .any else .ptr m off
 | .map m=>if m=l then .any else .map m
 | .vw m off n c=>if m=l then dv off n c else .vw m off n c
 | .agg cs=>.agg (AV.rps l dr dv cs)
 | .fn f cs=>.fn f (AV.rps l dr dv cs)
 | .tup cs=>.tup (AV.rps l dr dv cs)
 | .any=>.any
 | .imm v=>.imm v
 | .dat f k es=>.dat f k es
 | .elp f ds=>.elp f ds
def AV.rps (l:Nat)(dr:AV)(dv:Nat→Nat→Nat→AV):List AV→List AV
 | []=>[]
 | v::vs=>AV.rp l dr dv v::AV.rps l dr dv vs
end
def Ob.rp (l:Nat)(dr:AV)(dv:Nat→Nat→Nat→AV):Ob→Ob
 | .box cs=>.box (AV.rps l dr dv cs)
 | .row e k cs=>.row e k (AV.rps l dr dv cs)
 | .rowd e k f es=>.rowd e k f es
 | .mp P k ks=>.mp P k ks
 | .dead=>.dead
 | .arr e k f es=>.arr e k f es
 | .mx it P k kvs cur=>.mx it P k kvs cur
def rpT (l:Nat)(dr:AV)(dv:Nat→Nat→Nat→AV):List (Nat×AV)→List (Nat×AV)
 | []=>[]
 | (t,v)::T=>(t,AV.rp l dr dv v)::rpT l dr dv T
def rpO (l:Nat)(dr:AV)(dv:Nat→Nat→Nat→AV):List (Nat×Ob)→List (Nat×Ob)
 | []=>[]
 | (t,v)::T=>(t,v.rp l dr dv)::rpO l dr dv T
theorem lk_rpT (l:Nat)(dr:AV)(dv:Nat→Nat→Nat→AV):∀ (T:List (Nat×AV)) (t:Nat),lk (rpT l dr dv T) t=(lk T t).map (AV.rp l dr dv)
 | [],t=>rfl
 | (s,v)::T,t=>by
   simp only [rpT,qcm]
   split
   ·rfl
   ·exact lk_rpT l dr dv T t
theorem qr3 (l:Nat)(dr:AV)(dv:Nat→Nat→Nat→AV):∀ (T:List (Nat×Ob)) (t:Nat),ok (rpO l dr dv T) t=(ok T t).map (Ob.rp l dr dv)
 | [],t=>rfl
 | (s,v)::T,t=>by
   simp only [rpO,qa0]
   split
   ·rfl
   ·exact qr3 l dr dv T t
section
variable {w:World}{ρ:Nat→Value}{S:Bool→Nat→Prop}{U U':Nat→Prop}{l:Nat}{p:Value}{dr:AV}{dv:Nat→Nat→Nat→AV}
mutual
theorem Rep.rp (hU:∀ m,U m→U' m)(hdr:U l→Rep w (upd ρ l p) S U' dr (ρ l))(hdv:∀ off n c x,Rep w ρ S U (.vw l off n c) x→Rep w (upd ρ l p) S U' (dv off n c) x):∀ (v:AV) (x:Value),Rep w ρ S U v x→Rep w (upd ρ l p) S U' (AV.rp l dr dv v) x
 | .any,x,h=>by simp [AV.rp,Rep]
 | .imm v,x,h=>by simpa [AV.rp,Rep] using h
 | .dat f k es,x,h=>by simpa only [AV.rp,Rep] using h
 | .agg cs,x,h=>by
   simp only [AV.rp,Rep] at h ⊢
   obtain ⟨xs,hx,h1,h⟩:=h
   exact ⟨xs,hx,h1,RepL.rp hU hdr hdv cs xs h⟩
 | .ptr m off,x,h=>by
   simp only [AV.rp]
   split
   ·simp [Rep]
   ·rename_i hne
    simp only [Rep] at h ⊢
    rw [qbz hne];exact ⟨hU m h.1,h.2⟩
 | .elp f ds,x,h=>by simpa only [AV.rp,Rep] using h
 | .row m,x,h=>by
   simp only [AV.rp]
   split
   ·rename_i e;subst e
    simp only [Rep] at h
    rw [h.2.1];exact hdr h.1
   ·rename_i hne
    simp only [Rep] at h ⊢
    rw [qbz hne];exact ⟨hU m h.1,h.2⟩
 | .fn f cs,x,h=>by
   simp only [AV.rp,Rep] at h ⊢
   obtain ⟨xs,hx,h⟩:=h
   exact ⟨xs,hx,RepL.rp hU hdr hdv cs xs h⟩
 | .map m,x,h=>by
   simp only [AV.rp]
   split
   ·simp [Rep]
   ·rename_i hne
    simp only [Rep] at h ⊢
    rw [qbz hne];exact ⟨hU m h.1,h.2⟩
 | .tup cs,x,h=>by
   simp only [AV.rp,Rep] at h ⊢
   obtain ⟨xs,hx,h⟩:=h
   exact ⟨xs,hx,RepL.rp hU hdr hdv cs xs h⟩
 | .vw m off n c,x,h=>by
   simp only [AV.rp]
   split
   ·rename_i e;subst e
    exact hdv off n c x h
   ·rename_i hne
    simp only [Rep] at h ⊢
    rw [qbz hne];exact ⟨hU m h.1,h.2⟩
theorem RepL.rp (hU:∀ m,U m→U' m)(hdr:U l→Rep w (upd ρ l p) S U' dr (ρ l))(hdv:∀ off n c x,Rep w ρ S U (.vw l off n c) x→Rep w (upd ρ l p) S U' (dv off n c) x):∀ (vs:List AV) (xs:List Value),RepL w ρ S U vs xs→RepL w (upd ρ l p) S U' (AV.rps l dr dv vs) xs
 | [],xs,h=>by simpa [AV.rps,RepL] using h
 | v::vs,xs,h=>by
   simp only [AV.rps,RepL] at h ⊢
   obtain ⟨y,ys,hx,h1,h2⟩:=h
   exact ⟨y,ys,hx,Rep.rp hU hdr hdv v y h1,RepL.rp hU hdr hdv vs ys h2⟩
end
end
theorem rp_live {dr:AV}{dv:Nat→Nat→Nat→AV}{o:Ob}(h:(o.rp l dr dv).live):o.live:=by cases o<;>exact h
section
variable {P:Program}{c:Ctx}{N:Nat}{Q:Exit→St→Prop}{σ:St}{o:Oper}
theorem Conc.swap {T:List (Nat×AV)}{O:List (Nat×Ob)}{a:Act}(hc:Conc c N ⟨T,O⟩ a w ρ S){ob ob':Ob}(hl:ok O l=some ob)(hv:ob.live)(hL:¬ c.L l)(p:Value)(hp:∀ b,blk p=some b→blk (ρ l)=some b){dr:AV}{dv:Nat→Nat→Nat→AV}
  (hdr:Rep w (upd ρ l p) S (St.U ⟨rpT l dr dv T,(l,ob')::rpO l dr dv O⟩) dr (ρ l)) (hdv:∀ off n k x,Rep w ρ S (St.U ⟨T,O⟩) (.vw l off n k) x→Rep w (upd ρ l p) S (St.U ⟨rpT l dr dv T,(l,ob')::rpO l dr dv O⟩) (dv off n k) x)
  (hob:ObOk w (upd ρ l p) S (St.U ⟨rpT l dr dv T,(l,ob')::rpO l dr dv O⟩) l ob'):Conc c N ⟨rpT l dr dv T,(l,ob')::rpO l dr dv O⟩ a w (upd ρ l p) S:=by
 have hU:∀ m,St.U ⟨T,O⟩ m→St.U ⟨rpT l dr dv T,(l,ob')::rpO l dr dv O⟩ m:=fun m hm=>by
  simp only [St.U,qa0,qr3] at hm ⊢
  split
  ·rfl
  ·simpa using hm
 have hsp:∀ m om,ok ((l,ob')::rpO l dr dv O) m=some om→(m=l∧om=ob')∨(m≠l∧∃ om',ok O m=some om'∧om=om'.rp l dr dv):=fun m om hm=>by
  rw [qa0] at hm
  split at hm
  ·rename_i e;exact .inl ⟨e.symm,by simpa using hm.symm⟩
  ·rename_i e
   rw [qr3] at hm
   obtain ⟨om',h2,h3⟩:=Option.map_eq_some_iff.1 hm
   exact .inr ⟨fun e'=>e e'.symm,om',h2,h3.symm⟩
 have hrp:∀ v x,Rep w ρ S (St.U ⟨T,O⟩) v x→Rep w (upd ρ l p) S (St.U ⟨rpT l dr dv T,(l,ob')::rpO l dr dv O⟩) (AV.rp l dr dv v) x:=fun v x h=>Rep.rp hU (fun _=>hdr) hdv v x h
 have hrps:∀ v x,RepL w ρ S (St.U ⟨T,O⟩) v x→RepL w (upd ρ l p) S (St.U ⟨rpT l dr dv T,(l,ob')::rpO l dr dv O⟩) (AV.rps l dr dv v) x:=fun v x h=>RepL.rp hU (fun _=>hdr) hdv v x h
 have hlift:∀ f ds x,RepL w ρ S (St.U ⟨T,O⟩) (lift f ds) x→RepL w (upd ρ l p) S (St.U ⟨rpT l dr dv T,(l,ob')::rpO l dr dv O⟩) (lift f ds) x:=fun f ds x h=>
  RepL.gen (p:=fun _=>false) (q:=fun _=>true) (fun _ _ _ h=>h) (fun _ _ _ _=>rfl) (fun _ h=>by cases h) _ _ (qbU _ _ _) (qc9 _) h
 have hbl:∀ m om b,ok ((l,ob')::rpO l dr dv O) m=some om→om.live→blk (upd ρ l p m)=some b→∃ om',ok O m=some om'∧om'.live∧blk (ρ m)=some b:=fun m om b h1 h2 h3=>by
  rcases hsp m om h1 with ⟨rfl,rfl⟩|⟨n1,o1,k1,rfl⟩
  ·rw [qbY] at h3
   exact ⟨ob,hl,hv,hp b h3⟩
  ·rw [qbz n1] at h3
   exact ⟨o1,k1,rp_live h2,h3⟩
 refine ⟨hc.tm,hc.df,fun t v ht=>?_,fun m om hm=>?_,fun m m' om om' b h2 h3 h4 h5 h6 h7=>?_,fun m om b g h2 h3 h4=>?_,fun m om b h2 h3 h4=>?_,fun m om b h2 h3 h4=>?_,hc.SS,hc.Sb,hc.Sn,hc.So,fun m hm=>?_,hc.fm⟩
 ·rw [show (St.mk (rpT l dr dv T) ((l,ob')::rpO l dr dv O)).T=rpT l dr dv T from rfl,lk_rpT] at ht
  obtain ⟨v0,hv0,rfl⟩:=Option.map_eq_some_iff.1 ht
  exact hrp _ _ (hc.T t v0 hv0)
 ·rcases hsp m om hm with ⟨rfl,rfl⟩|⟨hne,om',h2,rfl⟩
  ·exact hob
  ·have hob:=hc.O m om' h2
   cases om' with
   | box cs=>
     obtain ⟨b,ty,ys,h3,h4,h5,h6⟩:=hob
     exact ⟨b,ty,ys,by rw [qbz hne];exact h3,h4,h5,hrps _ _ h6⟩
   | row e k cs=>
     obtain ⟨n,ys,h3,h4,h5⟩:=hob
     exact ⟨n,ys,by rw [qbz hne];exact h3,h4,hrps _ _ h5⟩
   | rowd e k f es=>
     obtain ⟨h0,ys,h3,h4,h5⟩:=hob
     exact ⟨h0,ys,by rw [qbz hne];exact h3,h4,hlift _ _ _ h5⟩
   | mp P k ks=>
     obtain ⟨r,h3,h4⟩:=hob
     exact ⟨r,by rw [qbz hne];exact h3,h4⟩
   | dead=>trivial
   | arr e k f es=>
     obtain ⟨b,xs,h3,h4,h5,h6,h7⟩:=hob
     exact ⟨b,xs,by rw [qbz hne];exact h3,h4,h5,h6,fun i d hd=>⟨(h7 i d hd).1,hlift _ _ _ (h7 i d hd).2.1,(h7 i d hd).2.2⟩⟩
   | mx it P k kvs cur=>
     simp only [Ob.rp,ObOk] at hob ⊢
     rw [qbz hne];exact hob
 ·obtain ⟨o1,k1,k2,k3⟩:=hbl m om b h2 h4 h6
  obtain ⟨o2,k4,k5,k6⟩:=hbl m' om' b h3 h5 h7
  exact hc.dj m m' o1 o2 b k1 k4 k2 k5 k3 k6
 ·obtain ⟨o1,k1,k2,k3⟩:=hbl m om b h2 h3 h4
  exact hc.dS m o1 b g k1 k2 k3
 ·obtain ⟨o1,k1,k2,k3⟩:=hbl m om b h2 h3 h4
  exact hc.wr m o1 b k1 k2 k3
 ·obtain ⟨o1,k1,k2,k3⟩:=hbl m om b h2 h3 h4
  exact hc.lt m o1 b k1 k2 k3
 ·obtain ⟨h2,h3⟩:=hc.lo m hm
  have hne:m≠l:=fun e=>hL (e▸hm)
  exact ⟨hU m h2,by rw [qbz hne];exact h3⟩
def anyV:Nat→Nat→Nat→AV:=fun _ _ _=>.any
theorem qee {w:World}{ρ:Nat→Value}{S:Bool→Nat→Prop}{U:Nat→Prop}{f:Bool}{k:Nat}:∀ {es:List (List D)} {xs:List Value},(∀ d∈es,d.length=k)→RepL w ρ S U (lift f es.flatten) xs→∀ (i:Nat) (d:List D),es[i]?=some d→RepL w ρ S U (lift f d) ((xs.drop (i*k)).take k)
 | [],xs,_,_,i,d,h=>by simp at h
 | e::es,xs,hk,hr,i,d,h=>by
   have he:e.length=k:=hk e (by simp)
   have h8:lift f (e::es).flatten=lift f e++lift f es.flatten:=by simp [lift]
   have hle:(lift f e).length=k:=by simp [lift,he]
   cases i with
   | zero=>
     simp only [List.getElem?_cons_zero,Option.some.injEq] at h;subst h
     have ht:=hr.take k
     rw [h8,List.take_append_of_le_length (by omega),List.take_of_length_le (by omega)] at ht
     simpa using ht
   | succ i=>
     have hd:=hr.drop k
     rw [h8,List.drop_append,List.drop_eq_nil_of_le (by omega),hle,Nat.sub_self,List.drop_zero,List.nil_append] at hd
     have:=qee (fun d hd'=>hk d (by simp [hd'])) hd i d (by simpa using h)
     rw [List.drop_drop] at this
     rw [show (i+1)*k=k+i*k by rw [Nat.add_mul];omega]
     exact this
theorem qfZ {w:World}{ρ:Nat→Value}{S:Bool→Nat→Prop}{U:Nat→Prop}{f:Bool}{k:Nat}:∀ {es:List (List D)} {xs:List Value} {off:Nat},off+es.length*k≤xs.length→(∀ (i:Nat) (d:List D),es[i]?=some d→d.length=k∧RepL w ρ S U (lift f d) ((xs.drop (off+i*k)).take k)∧∀ y∈(xs.drop (off+i*k)).take k,y.oneCell'=true)→
   RepL w ρ S U (lift f es.flatten) ((xs.drop off).take (es.length*k))∧∀ y∈(xs.drop off).take (es.length*k),y.oneCell'=true
 | [],xs,off,_,_=>by simp [lift,RepL]
 | e::es,xs,off,hle,h=>by
   simp only [List.length_cons,Nat.add_mul,Nat.one_mul] at hle
   have h0:=h 0 e E
   simp only [Nat.zero_mul,Nat.add_zero] at h0
   have ih:=qfZ (w:=w) (ρ:=ρ) (S:=S) (U:=U) (f:=f) (k:=k) (es:=es) (xs:=xs) (off:=off+k) (by omega) (fun i d hd=>by
    have:=h (i+1) d (by simpa using hd)
    rwa [show off+(i+1)*k=off+k+i*k by rw [Nat.add_mul];omega] at this)
   have e1:(xs.drop off).take ((e::es).length*k)=(xs.drop off).take k++(xs.drop (off+k)).take (es.length*k):=by
    rw [List.length_cons,Nat.add_mul,Nat.one_mul,Nat.add_comm,List.take_add,List.drop_drop]
   rw [e1]
   refine ⟨?_,fun y hy=>?_⟩
   ·have h8:lift f (e::es).flatten=lift f e++lift f es.flatten:=by simp [lift]
    rw [h8]
    exact h0.2.1.append ih.1
   ·rcases List.mem_append.1 hy with hy|hy
    ·exact h0.2.2 y hy
    ·exact ih.2 y hy
theorem qdG {T:List (Nat×AV)}{O:List (Nat×Ob)}{es:List (List D)}(hl:ok O l=some (.rowd e k f es))(hk:0<k)(hL:¬ c.L l)
  (Knil:es=[]→awps P c N ops rest Q ⟨rpT l (.imm (.slice none 0 0)) anyV T,(l,.dead)::rpO l (.imm (.slice none 0 0)) anyV O⟩)
  (K:∀ cap,es.length≤cap→cap≤maxLen→awps P c N ops rest Q ⟨rpT l (.vw l 0 es.length cap) anyV T,(l,.arr e k f (es.map some++List.replicate (cap-es.length) none))::rpO l (.vw l 0 es.length cap) anyV O⟩):awps P c N ops rest Q ⟨T,O⟩:=by
 rintro a w ⟨ρ,S,hc⟩
 obtain ⟨hes,xs,how,h1,hr⟩:=hc.O l _ hl
 rcases how.2 with ⟨hv,hn⟩|⟨g,cap,cur,hv,_,hh,hcap,hmax,hsz,htk⟩
 ·have he:es=[]:=List.eq_nil_of_length_eq_zero hn
  refine Knil he a w ⟨_,S,hc.swap (ob':=.dead) (dr:=.imm (.slice none 0 0)) (dv:=anyV) hl trivial hL (ρ l) (fun _ h=>h) ?_ (fun _ _ _ _ _=>by simp [anyV,Rep]) trivial⟩
  simp only [Rep];exact hv
 ·refine K cap hcap hmax a w ⟨_,S,hc.swap (ob':=.arr e k f (es.map some++List.replicate (cap-es.length) none)) (dr:=.vw l 0 es.length cap) (dv:=anyV) hl trivial hL (.slice (some ⟨g,0,none⟩) cap cap) (fun b h=>by rw [hv];simpa [blk] using h) ?_ (fun _ _ _ _ _=>by simp [anyV,Rep]) ?_⟩
  ·simp only [Rep]
   exact ⟨by simp [St.U,qa0],g,⟨cap,by rw [qbY]⟩,hv⟩
  ·have hlen:(es.map some++List.replicate (cap-es.length) (none:Option (List D))).length=cap:=by simp;omega
   refine ⟨g,cur.toList,by rw [qbY,hlen],by simpa using hh,by rw [hlen];simpa using hsz,by rw [hlen];exact hmax,fun i d hd=>?_⟩
   have hi:es[i]?=some d:=by
    by_cases hi:i<es.length
    ·rw [List.getElem?_append_left (by simpa using hi),List.getElem?_map] at hd
     obtain ⟨d',h2,h3⟩:=Option.map_eq_some_iff.1 hd
     cases h3;exact h2
    ·rw [List.getElem?_append_right (by simpa using hi)] at hd
     rw [List.getElem?_replicate] at hd
     split at hd<;>simp at hd
   have hil:i<es.length:=(List.getElem?_eq_some_iff.1 hi).1
   have hle:i*k+k≤es.length*k:=by rw [← Nat.succ_mul];exact Nat.mul_le_mul_right _ hil
   have e1:(cur.toList.drop (i*k)).take k=(xs.drop (i*k)).take k:=by
    rw [← htk,List.drop_take,List.take_take,Nat.min_eq_left (by omega)]
   rw [e1]
   refine ⟨hes d (List.mem_of_getElem? hi),?_,fun y hy=>h1 y (List.mem_of_mem_drop (List.mem_of_mem_take hy))⟩;refine RepL.gen (p:=fun _=>false) (q:=fun _=>true) (fun _ _ _ h=>h) (fun _ _ _ _=>rfl) (fun _ h=>by cases h) _ _ (qbU _ _ _) (qc9 _) (qee hes hr i d hi)
def clV (l n c:Nat):Nat→Nat→Nat→AV:=fun off n' c'=>if off=0∧n'=n∧c'=c then .row l else .any
theorem qbm {T:List (Nat×AV)}{O:List (Nat×Ob)}(es:List (List D)){os:List (Option (List D))}{cap:Nat}(hl:ok O l=some (.arr e k f os))(hL:¬ c.L l)(hes:∃ junk,os=es.map some++junk)(hn:n=es.length)(hcap:cap=os.length):
  Sub c N ⟨T,O⟩ ⟨rpT l .any (clV l n cap) T,(l,.rowd e k f es)::rpO l .any (clV l n cap) O⟩:=by
 rintro a w ⟨ρ,S,hc⟩
 obtain ⟨junk,rfl⟩:=hes
 obtain ⟨b,xs,h1,h2,h3,h4,h5⟩:=hc.O l _ hl
 subst hn
 have hle:es.length≤cap:=by rw [hcap];simp
 refine ⟨_,S,hc.swap (ob':=.rowd e k f es) (dr:=.any) (dv:=clV l es.length cap) hl trivial hL (.slice (some ⟨b,0,none⟩) es.length cap) (fun b' h=>by rw [h1];simpa [blk] using h) (by simp [Rep]) (fun off n c x h=>?_) ?_⟩
 ·simp only [clV]
  split
  ·rename_i e';obtain ⟨rfl,rfl,rfl⟩:=e'
   simp only [Rep] at h ⊢
   obtain ⟨_,b',⟨m,hm⟩,hx⟩:=h
   rw [h1] at hm
   simp only [Value.slice.injEq,Option.some.injEq,Addr.mk.injEq] at hm
   obtain ⟨⟨rfl,_⟩,_⟩:=hm
   exact ⟨by simp [St.U,qa0],by rw [qbY];exact hx,_,_,_,hx⟩
  ·simp [Rep]
 ·have hle2:es.length*k≤xs.length:=by rw [h3,← hcap];exact Nat.mul_le_mul_right _ hle
  have hj:=qfZ (w:=w) (ρ:=ρ) (S:=S) (U:=St.U ⟨T,O⟩) (f:=f) (k:=k) (es:=es) (xs:=xs) (off:=0) (by omega) (fun i d hd=>by
   have:=h5 i d (by rw [List.getElem?_append_left (by simpa using (List.getElem?_eq_some_iff.1 hd).1),List.getElem?_map,hd];rfl)
   rwa [Nat.zero_add])
  rw [List.drop_zero] at hj
  refine ⟨fun d hd=>?_,xs.take (es.length*k),⟨by simp;omega,.inr ⟨b,cap,xs.toArray,by rw [qbY],Nat.zero_le _,h2,hle,by rw [hcap];exact h4,by simp [h3,← hcap],rfl⟩⟩,hj.2,?_⟩
  ·obtain ⟨i,hi⟩:=List.getElem?_of_mem hd
   exact (h5 i d (by rw [List.getElem?_append_left (by simpa using (List.getElem?_eq_some_iff.1 hi).1),List.getElem?_map,hi];rfl)).1
  ·refine RepL.gen (p:=fun _=>false) (q:=fun _=>true) (fun _ _ _ h=>h) (fun _ _ _ _=>rfl) (fun _ h=>by cases h) _ _ (qbU _ _ _) (qc9 _) hj.1
theorem qcy (ho:o.op=.call { callee:=.builtin .len,args:=#[x],argTypes:=#[t] })(ht:slB P t e k=true)(hx:ev σ.T x=some (.vw l off n q)):Stp P c N o σ [] (.imm (.int .i64 n)) []:=by
 refine qaN fun σ' h1 _ st w ρ S hc=>⟨_,?_,by simp only [Rep];rfl⟩
 have hx':=qaz hc (h1 x (by simp [ho,Op.operands,Call.operands]) _ hx)
 simp only [Rep] at hx'
 obtain ⟨_,b,_,hxe⟩:=hx'
 obtain ⟨i,h2,_⟩:=qcL ht
 simp only [execOp,ho,resolve]
 simp [Sem.run_bind,invoke,builtin,hxe,Builtin.len_,run_underlying h2 w,goInt]
theorem qlK (ho:o.op=.call { callee:=.builtin .cap,args:=#[x],argTypes:=#[t] })(ht:slB P t e k=true)(hx:ev σ.T x=some (.vw l off n q)):Stp P c N o σ [] (.imm (.int .i64 q)) []:=by
 refine qaN fun σ' h1 _ st w ρ S hc=>⟨_,?_,by simp only [Rep];rfl⟩
 have hx':=qaz hc (h1 x (by simp [ho,Op.operands,Call.operands]) _ hx)
 simp only [Rep] at hx'
 obtain ⟨_,b,_,hxe⟩:=hx'
 obtain ⟨i,h2,_⟩:=qcL ht
 simp only [execOp,ho,resolve]
 simp [Sem.run_bind,invoke,builtin,hxe,Builtin.cap_,run_underlying h2 w,goInt]
theorem qjr {lo hi:Option Operand}{j:Int}(ho:o.op=.slice t x lo hi none)(ht:slB P t e k=true)(hx:ev σ.T x=some (.vw l off n q))
    (hlo:∀ y,lo=some y→ev σ.T y=some (.imm (.int .i64 i))) (hlo':lo=none→i=0) (hhi:∀ y,hi=some y→ev σ.T y=some (.imm (.int .i64 j))) (hhi':hi=none→j=n) (h0:0≤i) (h1:i≤j) (h2:j≤q) (hnq:n≤q):Stp P c N o σ [] (.vw l (if (q:Int)=i then off else off+i.toNat*k) (j.toNat-i.toNat) (q-i.toNat)) []:=by
  refine qaN fun σ' h3 _ st w ρ S hc=>?_
  have hx':=qaz hc (h3 x (by simp [ho,Op.operands]) _ hx)
  simp only [Rep] at hx'
  obtain ⟨hU,b,hb',hxe⟩:=hx'
  have hbl:∀ (y:Operand),lo=some y→st.eval y=.int .i64 i:=fun y hy=>by
    have:=qaz hc (h3 y (by simp [ho,Op.operands,hy]) _ (hlo y hy))
    simpa [Rep] using this
  have hbh:∀ (y:Operand),hi=some y→st.eval y=.int .i64 j:=fun y hy=>by
    have:=qaz hc (h3 y (by simp [ho,Op.operands,hy]) _ (hhi y hy))
    simpa [Rep] using this
  obtain ⟨it,h4,h5,h6⟩:=qcL ht
  have hb:∀ (y:Nat) (n:Int) (code:BoundsCode) (w:World),0≤n→n≤y→(Instr.sliceBound (.int .i64 n) y code).run P w=.ok n.toNat w:=fun y n code w h h'=>run_sliceBound (P:=P) w .i64 n y code h h'
  have hbnd:(Instr.sliceBounds true n q (lo.map st.eval) (hi.map st.eval) none).run P w=.ok (i.toNat,j.toNat,q) w:=by
    cases lo with
    | none=>
      have hi0:=hlo' E
      subst hi0
      cases hi with
      | none=>have:=hhi' rfl;subst this;simp [Instr.sliceBounds]
      | some y=>simp [Instr.sliceBounds,Sem.run_bind,hbh y E,hb q j _ w (by omega) (by omega)]
    | some z=>
      cases hi with
      | none=>have:=hhi' rfl;subst this;simp [Instr.sliceBounds,Sem.run_bind,hbl z rfl,hb n i _ w h0 h1]
      | some y=>simp [Instr.sliceBounds,Sem.run_bind,hbh y E,hbl z E,hb q j _ w (by omega) (by omega),hb j.toNat i _ w h0 (by omega)]
  refine ⟨.slice (if q=i.toNat then some ⟨b,off,none⟩ else (some (⟨b,off,none⟩:Addr)).map (·.add (i.toNat*k))) (j.toNat-i.toNat) (q-i.toNat),?_,?_⟩
  · simp only [execOp,ho,hxe,Instr.sliceAt,Option.map_none]
    simp [Sem.run_bind,run_underlying h4 w,Instr.slice,hbnd,sizeOf,run_typeInfo w h5,h6]
  · simp only [Rep]
    refine ⟨hU,b,hb',?_⟩
    by_cases hq:q=i.toNat
    · rw [if_pos hq,if_pos (by omega)]
    · rw [if_neg hq,if_neg (by omega)]
      simp [qcq]
theorem qax {p:IntKind}(ho:o.op=.indexAddr t x y)(ht:slB P t e k=true)(hx:ev σ.T x=some (.vw l off n q))(hy:ev σ.T y=some (.imm (.int p i)))
  (h0:0≤i) (h1':i<n):Stp P c N o σ [] (.ptr l (off+i.toNat*k)) []:=by
 refine qaN fun σ' h1 h2 a w ρ S hc=>?_
 have h:=qaz hc (h1 x (by simp [ho,Op.operands]) _ hx)
 have h':=qaz hc (h1 y (by simp [ho,Op.operands]) _ hy)
 simp only [Rep] at h h'
 obtain ⟨hU,b,⟨m,hb⟩,hx'⟩:=h
 refine ⟨.pointer (some ⟨b,off+i.toNat*k,none⟩),?_,by simp only [Rep];exact ⟨hU,b,by rw [hb];rfl,rfl⟩⟩
 simp only [execOp,ho,hx',h']
 simp [Sem.run_bind,qeF ht w b off n q p i h0 (by omega)]
theorem qbC {i j:Nat}{b:Bool}{d:List D}{v:AV}(ho:o.op=.load t x)(ht:tfB P t b n=true)(hx:ev σ.T x=some (.ptr l off))(hl:ok σ.O l=some (.arr e k f es))
  (hoff:off=i*k+j) (hi:es[i]?=some (some d)) (hn:j+n≤k) (h0:0<n) (hv:mkA b n ((lift f d).drop j |>.take n)=some v):Stp P c N o σ [l] v []:=by
 refine qaN fun σ' h1 h2 a w ρ S hc=>?_
 obtain ⟨g,hg,hx'⟩:=qgC hc (h1 x (by simp [ho,Op.operands]) _ hx)
 obtain ⟨b',xs,h3,h4,h5,h6,h7⟩:=hc.O l _ (h2 l (by simp) _ hl)
 rw [h3] at hg;simp only [blk,Option.some.injEq] at hg;subst hg
 obtain ⟨k1,k2,k3⟩:=h7 i d hi
 have hil:i<es.length:=(List.getElem?_eq_some_iff.1 hi).1
 have hle:i*k+k≤es.length*k:=by rw [← Nat.succ_mul];exact Nat.mul_le_mul_right _ hil
 have e1:(xs.drop off).take n=(((xs.drop (i*k)).take k).drop j).take n:=by
  rw [List.drop_take,List.take_take,Nat.min_eq_left (by omega),List.drop_drop,hoff]
 refine ⟨mkV b ((xs.drop off).take n),?_,?_⟩
 ·simp only [execOp,ho,hx',Instr.loadAt,Instr.sureAddr]
  have:=qcz (P:=P) ht w b' off ((xs.drop off).take n) (by simp;omega) (fun j v hv=>by rw [qdh h4];exact qhu hv)
  simp [Sem.run_bind,this]
 ·rw [e1]
  exact qje hv (fun y hy=>k3 y (List.mem_of_mem_drop (List.mem_of_mem_take hy))) ((k2.drop j).take n)
def Src (c:Ctx)(N:Nat)(σ:St)(x:Operand)(k:Nat)(f:Bool)(n:Nat)(ds:List (List D)):Prop:=∀ a w ρ S,Conc c N σ a w ρ S→∃ A q,a.eval x=.slice A n q∧ds.length≤n∧(∀ d∈ds,d.length=k)∧
 ((A=none∧n=0)∨∃ ad,∃ us:List Value,A=some ad∧us.length=ds.length*k∧(∀ (j:Nat) (u:Value),us[j]?=some u→w.cell? (ad.add j)=some u)∧(∀ u∈us,u.oneCell'=true)∧RepL w ρ S σ.U (lift f ds.flatten) us)
theorem qpN {i:Nat}(hx:ev σ.T x=some (.vw l off n q))(hl:ok σ.O l=some (.arr e k f es))(hoff:off=i*k)(hds:∀ (j:Nat) (d:List D),ds[j]?=some d→es[i+j]?=some (some d))(hn:ds.length≤n):Src c N σ x k f n ds:=by
 intro a w ρ S hc
 have h:=qaz hc hx
 simp only [Rep] at h
 obtain ⟨hU,b,⟨m,hb⟩,hx'⟩:=h
 obtain ⟨b',xs,h3,h4,h5,h6,h7⟩:=hc.O l _ hl
 rw [h3] at hb
 simp only [Value.slice.injEq,Option.some.injEq,Addr.mk.injEq] at hb
 obtain ⟨⟨rfl,_⟩,_⟩:=hb
 have hsome:∀ (j:Nat) (d:List D),ds[j]?=some d→d.length=k∧RepL w ρ S σ.U (lift f d) ((xs.drop (i*k+j*k)).take k)∧∀ y∈(xs.drop (i*k+j*k)).take k,y.oneCell'=true:=fun j d hd=>by
  have:=h7 _ d (hds j d hd)
  rwa [Nat.add_mul] at this
 have hle:ds=[]∨i*k+ds.length*k≤xs.length:=by
  by_cases h0:ds=[]
  ·exact .inl h0
  ·right
   obtain ⟨d,hd⟩:∃ d,ds[ds.length-1]?=some d:=⟨_,List.getElem?_eq_getElem (by have:=List.length_pos_iff.2 h0;omega)⟩
   have h9:=(List.getElem?_eq_some_iff.1 (hds _ d hd)).1
   have hpos:=List.length_pos_iff.2 h0
   rw [← Nat.add_mul,h5]
   exact Nat.mul_le_mul_right _ zO
 refine ⟨_,q,hx',hn,fun d hd=>?_,.inr ⟨_,(xs.drop (i*k)).take (ds.length*k),rfl,?_,?_,?_⟩⟩
 ·obtain ⟨j,hj⟩:=List.getElem?_of_mem hd
  exact (hsome j d hj).1
 ·rcases hle with h0|h0
  ·simp [h0]
  ·simp;omega
 ·intro j u hu
  rw [qcq,qdh h4,hoff]
  exact qhu hu
 ·rcases hle with h0|h0
  ·subst h0;simp [lift,RepL]
  ·have:=qfZ (w:=w) (ρ:=ρ) (S:=S) (U:=σ.U) (f:=f) (k:=k) (es:=ds) (xs:=xs) (off:=i*k) h0 hsome
   exact ⟨this.2,this.1⟩
theorem qdJ {es:List (List D)}(hx:ev σ.T x=some (.row l))(hl:ok σ.O l=some (.rowd e k f es)):Src c N σ x k f es.length es:=by
 intro a w ρ S hc
 have h:=qaz hc hx
 simp only [Rep] at h
 obtain ⟨hU,hx',_⟩:=h
 obtain ⟨hes,xs,how,h1,hr⟩:=hc.O l _ hl
 rcases how.2 with ⟨hv,hn⟩|⟨g,cap,cur,hv,_,hh,hcap,hmax,hsz,htk⟩
 ·exact ⟨none,0,by rw [hx',hv,hn],Nat.le_refl _,hes,.inl ⟨rfl,hn⟩⟩
 ·refine ⟨some ⟨g,0,none⟩,cap,by rw [hx',hv],Nat.le_refl _,hes,.inr ⟨_,xs,rfl,how.1,fun j u hu=>?_,h1,hr⟩⟩
  rw [qcq,Nat.zero_add]
  exact qb8 how (by rw [hv];rfl) j u hu
theorem aop_copy {i ns:Nat}{T:List (Nat×AV)}{O:List (Nat×Ob)}(ht:slB P t e k=true)
  (ho:o.op=.call { callee:=.builtin .copy,args:=#[x,y],argTypes:=#[t,t] }) (hdN:∀ d,o.dst=some d→d<N) (hx:ev T x=some (.vw l off n q)) (hl:ok O l=some (.arr e k f es)) (hoff:off=i*k) (hy:Src c N ⟨T,O⟩ y k f ns ds) (hm:ds.length=min ns n) (hfit:i+ds.length≤es.length):
  AOp P c N o ⟨T,O⟩ (fun σ2=>σ2=St.put ⟨T,(l,.arr e k f (qau es i (ds.map some)))::O⟩ o.dst (.imm (.int .i64 ds.length))):=by
 rintro a w ⟨ρ,S,hc⟩
 have h:=qaz hc hx
 simp only [Rep] at h
 obtain ⟨hU,b,⟨m,hb⟩,hx'⟩:=h
 obtain ⟨b',xs,h3,h4,h5,h6,h7⟩:=hc.O l _ hl
 have hb':=hb
 rw [h3] at hb'
 simp only [Value.slice.injEq,Option.some.injEq,Addr.mk.injEq] at hb'
 obtain ⟨⟨rfl,_⟩,_⟩:=hb'
 obtain ⟨A,qs,hye,hle,hdl,hsrc⟩:=hy a w ρ S hc
 obtain ⟨it,h8,h9,h10⟩:=qcL ht
 obtain ⟨us,hul,huc,hu1,hur⟩:∃ us:List Value,us.length=ds.length*k∧((Builtin.firstCells k ds.length (.slice A ns qs)).run P w=.ok us.toArray w)∧(∀ u∈us,u.oneCell'=true)∧RepL w ρ S (St.U ⟨T,O⟩) (lift f ds.flatten) us:=by
  rcases hsrc with ⟨rfl,rfl⟩|⟨ad,us,rfl,k1,k2,k3,k4⟩
  ·have:ds=[]:=List.eq_nil_of_length_eq_zero (by omega)
   subst this
   exact ⟨[],by simp,by simp [Builtin.firstCells,Sem.run_pure],by simp,by simp [lift,RepL]⟩
  ·refine ⟨us,k1,?_,k3,k4⟩
   have:=run_loadCells_list (P:=P) w ad us k2
   simp only [Builtin.firstCells]
   rw [← k1];exact this
 have hfit2:i*k+us.length≤xs.length:=by rw [hul,h5,← Nat.add_mul];exact Nat.mul_le_mul_right _ hfit
 have hst:=run_storeCells_at P b' (i*k) e us 0 xs.toArray w h4 (by simpa using hfit2) hu1
 simp only [Nat.add_zero] at hst
 let w':=w.setRow b' (qau xs (i*k) us).toArray
 have hst':(storeCells ⟨b',i*k,none⟩ us).run P w=.ok () w':=by
  show _=Result.ok () (w.setRow b' (qau xs (i*k) us).toArray)
  simpa [qau] using hst
 have hrun:(execOp a.eval o).run P w=.ok (.value (goInt ds.length)) w':=by
  simp only [execOp,ho,resolve]
  have e1:Nat.min ns n=ds.length:=by rw [hm]
  subst hoff
  simp [Sem.run_bind,invoke,builtin,hx',hye,Builtin.copy_,run_underlying h8 w,Builtin.lenOf,sizeOf,run_typeInfo w h9,h10,e1,huc,hst']
 have hfar:Far (fun g=>blk (ρ l)=some g) w w':=by rw [hb];exact qeC w b' _
 have hU2:∀ m,St.U ⟨T,O⟩ m→St.U ⟨T,(l,.arr e k f (qau es i (ds.map some)))::O⟩ m:=fun m hm=>qet m hm
 have hmono:∀ vs zs,RepL w ρ S (St.U ⟨T,O⟩) vs zs→RepL w' ρ S (St.U ⟨T,(l,.arr e k f (qau es i (ds.map some)))::O⟩) vs zs:=fun vs zs hz=>
  hz.mono (fun _ _ h=>h) (fun g b hb'=>hfar.block b (hc.Sb g b hb') (fun e'=>hc.dS l _ b g hl trivial e' hb')) hU2 (fun _ _=>rfl)
 have hlen2:(qau es i (ds.map some)).length=es.length:=qa9 (by simpa using hfit)
 have hob:ObOk w' ρ S (St.U ⟨T,(l,.arr e k f (qau es i (ds.map some)))::O⟩) l (.arr e k f (qau es i (ds.map some))):=by
  refine ⟨b',qau xs (i*k) us,by rw [hlen2];exact h3,setRow_heap w b' _ _ e _ h4,by rw [qa9 hfit2,hlen2];exact h5,by rw [hlen2];exact h6,fun j d hd=>?_⟩
  rw [qbu (by simpa using hfit)] at hd
  have seg:∀ (j0:Nat),(∀ p,p<k→(qau xs (i*k) us)[j*k+p]?=xs[j*k+p]?)→((qau xs (i*k) us).drop (j*k)).take k=(xs.drop (j*k)).take k:=fun _ hp=>by
   apply List.ext_getElem?
   intro p
   rw [List.getElem?_take,List.getElem?_take,List.getElem?_drop,List.getElem?_drop]
   split
   ·rename_i h;exact hp p h
   ·rfl
  by_cases c1:j<i
  ·rw [if_pos c1] at hd
   obtain ⟨g1,g2,g3⟩:=h7 j d hd
   have hjk:j*k+k≤i*k:=by rw [← Nat.succ_mul];exact Nat.mul_le_mul_right _ c1
   have e2:=seg 0 (fun p hp=>by rw [qbu hfit2,if_pos (by omega)])
   rw [e2]
   exact ⟨g1,hmono _ _ g2,g3⟩
  ·rw [if_neg c1] at hd
   by_cases c2:j<i+(ds.map some).length
   ·rw [if_pos c2,List.getElem?_map] at hd
    obtain ⟨d',hd',e3⟩:=Option.map_eq_some_iff.1 hd
    cases e3
    simp only [List.length_map] at c2
    have hjk:j*k=i*k+(j-i)*k:=by rw [← Nat.add_mul,Nat.add_sub_cancel' (by omega)]
    have hjk2:(j-i)*k+k≤us.length:=by rw [hul,← Nat.succ_mul];exact Nat.mul_le_mul_right _ (by omega)
    have e2:((qau xs (i*k) us).drop (j*k)).take k=(us.drop ((j-i)*k)).take k:=by
     apply List.ext_getElem?
     intro p
     rw [List.getElem?_take,List.getElem?_take,List.getElem?_drop,List.getElem?_drop]
     split
     ·rename_i hp
      rw [qbu hfit2,if_neg (by omega),if_pos (by omega)]
      congr 1;omega
     ·rfl
    rw [e2]
    refine ⟨hdl d (List.mem_of_getElem? hd'),hmono _ _ (qee hdl hur _ d hd'),fun y hy=>hu1 y (List.mem_of_mem_drop (List.mem_of_mem_take hy))⟩
   ·rw [if_neg c2] at hd
    simp only [List.length_map] at c2
    obtain ⟨g1,g2,g3⟩:=h7 j d hd
    have hjk:i*k+ds.length*k≤j*k:=by rw [← Nat.add_mul];exact Nat.mul_le_mul_right _ (by omega)
    have e2:=seg 0 (fun p hp=>by rw [qbu hfit2,if_neg (by omega),if_neg (by omega)])
    rw [e2]
    exact ⟨g1,hmono _ _ g2,g3⟩
 unfold Oper.wp
 rw [hrun]
 refine ⟨_,⟨ρ,S,(hc.modOb hl trivial hfar hob).put hdN (v:=.imm (.int .i64 ds.length)) (by simp [Rep,goInt])⟩,rfl⟩
theorem qeS {ns d:Nat}{T:List (Nat×AV)}{O:List (Nat×Ob)}(i:Nat)(ds:List (List D))(hg:o.guard=none)(hd:o.dst=some d)(hN:d<N)(ht:slB P t e k=true)
  (ho:o.op=.call { callee:=.builtin .copy,args:=#[x,y],argTypes:=#[t,t] }) (hx:ev T x=some (.vw l off n q)) (hl:ok O l=some (.arr e k f es)) (hoff:off=i*k) (hy:Src c N ⟨T,O⟩ y k f ns ds) (hm:ds.length=min ns n) (hfit:i+ds.length≤es.length)
  (K:awps P c N ops rest Q ⟨(d,.imm (.int .i64 ds.length))::T,(l,.arr e k f (qau es i (ds.map some)))::O⟩):awps P c N ops (o::rest) Q ⟨T,O⟩:=by
 refine qcF hg fun a w hc=>Oper.wp_mono ?_ (aop_copy ht ho (by intro e he;rw [hd] at he;cases he;exact hN) hx hl hoff hy hm hfit a w hc)
 rintro a w ⟨σ2,h2,rfl⟩
 refine ⟨_,h2,?_⟩
 simpa [St.put,hd] using K
end
end Go.Proofs.YtpgceiijoedppaaGreat