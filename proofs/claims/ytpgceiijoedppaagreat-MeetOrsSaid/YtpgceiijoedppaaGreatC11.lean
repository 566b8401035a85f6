/- Part 11 of the proof: Fa, Top. -/
import Derived.Test.YtpgceiijoedppaaGreatC10
import Derived.JoinedOf
set_option linter.unusedVariables false
set_option linter.unusedSimpArgs false
set_option maxRecDepth 8000
namespace Go.Proofs.YtpgceiijoedppaaGreat
open Go
abbrev PF (f:FuncId)(args:List AV)(v:AV):Prop:=AC Tryz.prog f args [] (fun r O=>r=v∧O=[])
abbrev PFm (f:FuncId)(args:List AV)(v:AV):Prop:=ACx true Tryz.prog f args [] (fun r O=>r=v∧O=[])
abbrev bv (b:Bool):AV:=.imm (.bool b)
abbrev iv (n:Int):AV:=.imm (.int .i64 n)
abbrev uv (n:Int):AV:=.imm (.int .u8 n)
abbrev sv (s:ByteArray):AV:=.imm (.string s)
def digB (x:Int):Bool:=decide (48≤x∧x≤57)
def qcR (x:Int):Bool:=decide (97≤x∧x≤122)
def qcU (x:Int):Bool:=decide (65≤x∧x≤90)
def qbD (x:Int):Bool:=qcR x || qcU x || digB x || decide (x=95)
def numB (x:Int):Bool:=decide (-1073741824≤x∧x≤1073741824)
theorem digit_ok (x:Int):PF 313 [uv x] (bv (digB x)):=by
 refine qI Tryz.func313 E Tryz.ntmps313 zL fun c hL hQ hDD=>(qd (qb (zX E (zK (qd (qb ?_))))));refine zX E (zA E (qj E E E E) (zX E (qE 5 E (fun g5=>?_) (fun g5=>?_))))
 ·simp only[↓cqA,cqB]at g5
  refine zZ E (ql (.inl E) E) (zZ E (qj E E E E) (zA E (qk E E E) (zX E (zK (qn (zI hL (qg E qh) ?_ ?_))))))
  ·rfl
  refine ⟨q7 ?_,rfl⟩
  rw [Bool.eq_iff_iff];simp [digB];try omega
 simp only[↓cqA,cqB]at g5
 refine zY E (zY E (zA E (qk E E E) (zX E (zK (qn (zI hL (qg E qh) ?_ ?_))))))
 ·rfl
 refine ⟨q7 ?_,rfl⟩
 rw [Bool.eq_iff_iff];simp [digB];try omega
theorem qpO (x:Int):PF 273 [uv x] (bv (qcR x)):=by
 refine qI Tryz.func273 E Tryz.ntmps273 zL fun c hL hQ hDD=>(qd (qb (zX E (zK (qd (qb ?_))))));refine zX E (zA E (qj E E E E) (zX E (qE 5 E (fun g5=>?_) (fun g5=>?_))))
 ·simp only[↓cqA,cqB]at g5
  refine zZ E (ql (.inl E) E) (zZ E (qj E E E E) (zA E (qk E E E) (zX E (zK (qn (zI hL (qg E qh) ?_ ?_))))))
  ·rfl
  refine ⟨q7 ?_,rfl⟩
  rw [Bool.eq_iff_iff];simp [qcR];try omega
 simp only[↓cqA,cqB]at g5
 refine zY E (zY E (zA E (qk E E E) (zX E (zK (qn (zI hL (qg E qh) ?_ ?_))))))
 ·rfl
 refine ⟨q7 ?_,rfl⟩
 rw [Bool.eq_iff_iff];simp [qcR];try omega
theorem qqk (x:Int):PF 234 [uv x] (bv (qcU x)):=by
 refine qI Tryz.func234 E Tryz.ntmps234 zL fun c hL hQ hDD=>(qd (qb (zX E (zK (qd (qb ?_))))));refine zX E (zA E (qj E E E E) (zX E (qE 5 E (fun g5=>?_) (fun g5=>?_))))
 ·simp only[↓cqA,cqB]at g5
  refine zZ E (ql (.inl E) E) (zZ E (qj E E E E) (zA E (qk E E E) (zX E (zK (qn (zI hL (qg E qh) ?_ ?_))))))
  ·rfl
  refine ⟨q7 ?_,rfl⟩
  rw [Bool.eq_iff_iff];simp [qcU];try omega
 simp only[↓cqA,cqB]at g5
 refine zY E (zY E (zA E (qk E E E) (zX E (zK (qn (zI hL (qg E qh) ?_ ?_))))))
 ·rfl
 refine ⟨q7 ?_,rfl⟩
 rw [Bool.eq_iff_iff];simp [qcU];try omega
theorem qsP (x:Int):PF 223 [iv x] (bv (numB x)):=by
 refine qI Tryz.func223 E Tryz.ntmps223 zL fun c hL hQ hDD=>(qd (qb (zX E (zK (qd (qb ?_))))));refine zX E (zA E (qj E E E E) (zX E (qE 5 E (fun g5=>?_) (fun g5=>?_))))
 ·simp only[↓cqA,cqB]at g5
  refine zZ E (ql (.inl E) E) (zZ E (qj E E E E) (zA E (qk E E E) (zX E (zK (qn (zI hL (qg E qh) ?_ ?_))))))
  ·rfl
  refine ⟨q7 ?_,rfl⟩
  rw [Bool.eq_iff_iff];simp [numB];try omega
 simp only[↓cqA,cqB]at g5
 refine zY E (zY E (zA E (qk E E E) (zX E (zK (qn (zI hL (qg E qh) ?_ ?_))))))
 ·rfl
 refine ⟨q7 ?_,rfl⟩
 rw [Bool.eq_iff_iff];simp [numB];try omega
theorem Inner_ok (x:Int):PF 279 [uv x] (bv (qbD x)):=by
 refine qI Tryz.func279 E Tryz.ntmps279 zL fun c hL hQ hDD=>(qd (qb (zX E (zK (qd (qb ?_))))));refine zX E (qH (avs:=[_]) true E E E zD qiS E E (qpO _) E E (zX E (qE 5 E (fun g5=>?_) (fun g5=>?_))))
 ·refine zY E (zY E (zA E (qk E E E) (zX E (zY E (zY E ?_)))))
  refine zA E (qk E E E) (zX E (zY E (zY E (zA E (qk E E E) (zX E (zK ?_))))));refine qn (zI hL (qg E qh) ?_ ?_)
  ·rfl
  refine ⟨q7 ?_,rfl⟩
  simp_all [qbD];try rfl
 refine zZ E (ql (.inl E) E) (zZ E (qai (avs:=[_]) true E qiT E E (qqk _) (fun _=>rfl) E) (zA E (qk E E E) (zX E (qE 9 E (fun g9=>?_) (fun g9=>?_)))))
 ·refine zY E (zY E (zA E (qk E E E) (zX E (zY E (zY E (zA E (qk E E E) (zX E ?_)))))));refine zK (qn (zI hL (qg E qh) ?_ ?_))
  ·rfl
  refine ⟨q7 ?_,rfl⟩
  simp_all [qbD];try rfl
 refine zZ E (ql (.inl E) E) (zZ E (qai (avs:=[_]) true E qmW E E (digit_ok _) (fun _=>rfl) E) (zA E (qk E E E) (zX E (qE 13 E (fun g13=>?_) (fun g13=>?_)))))
 ·refine zY E (zY E (zA E (qk E E E) (zX E (zK (qn (zI hL (qg E qh) ?_ ?_))))))
  ·rfl
  refine ⟨q7 ?_,rfl⟩
  simp_all [qbD];try rfl
 refine zZ E (ql (.inl E) E) (zZ E (qj E E E E) (zA E (qk E E E) (zX E (zK (qn (zI hL (qg E qh) ?_ ?_))))))
 ·rfl
 refine ⟨q7 ?_,rfl⟩
 simp_all [qbD];try rfl
def qjI (p:Int→Bool)(s:ByteArray):Bool:=decide (s.size≠0)&&decide (s.size≤16)&&p (qdm s 0)&&(List.range s.size).all (fun i=>qbD (qdm s i))
def qnP (s:ByteArray):Bool:=qjI qcR s
def varB (s:ByteArray):Bool:=qjI qcU s
theorem qrA (s:ByteArray)(p:Int→Bool)(g:FuncId)(hen:qY Tryz.prog g)(hg:∀ x,PF g [uv x] (bv (p x))):PF 233 [sv s,.fn g []] (bv (qjI p s)):=by
 refine qI Tryz.func233 E Tryz.ntmps233 zL fun c hL hQ hDD=>(qd (qb (zX E (zK (qd (qd ?_))))));refine qb (zX E (zA E (qcH E E E E) (zX E (qE 8 E (fun g8=>?_) (fun g8=>?_)))))
 ·simp only[↓cqA,cqB]at g8
  refine zY E (zY E (zY E (zA E (qk E E E) (zX E (zY E ?_)))))
  refine zY E (zY E (zY E (zY E (zA E (qk E E E) (zK (qa2 E ?_))))));refine qd (qb (zX E (zK (qn (qm (zI hL (qg E qh) ?_ ?_))))))
  ·rfl
  refine ⟨q7 ?_,rfl⟩
  simp [qjI,qfV.2 g8]
 simp only[↓cqA,cqB]at g8
 have h0:s.size≠0:=mt qfV.1 g8
 refine zZ E (ql (.inl E) E) (zZ E (qdc E qbA E) (zZ E (qj E E E E) (zA E (qk E E E) (zX E (qE 13 E (fun g13=>?_) (fun g13=>?_))))))
 ·simp only[↓cqA,cqB]at g13
  refine zY E (zY E (zY E (zY E (zY E (zA E (qk E E E) ?_)))))
  refine zK (qa2 E (qd (qb (zX E (zK ?_)))));refine qn (qm (zI hL (qg E qh) ?_ ?_))
  ·rfl
  refine ⟨q7 ?_,rfl⟩
  simp [qjI];omega
 simp only[↓cqA,cqB]at g13
 refine zZ E (ql (.inl E) E) (zZ E (ql (.inl E) E) (zZ E (qeb E qbA E E zD zO) (zZ E (qai (avs:=[_]) true E hen E E (hg _) (fun _=>rfl) E) (zZ E (qaB E E) (zA E (qk E E E) (zK (qo E (fun c0=>?_) (fun c0=>?_))))))))
 ·simp only[↓cqA,cqB]at c0
  refine qd (qb (zX E (zK (qn (qm (zI hL (qg E qh) ?_ ?_))))))
  ·rfl
  refine ⟨q7 ?_,rfl⟩
  simp [qjI,c0]
 simp only[↓cqA,cqB]at c0
 refine qr (qa (qd (qd (qb (zX E (zA E (qdc E qbA E) (zX E ?_)))))));refine zK (qv (qac (s.size) (fun k=>k≤s.size∧∀ j,j<k→qbD (qdm s j)=true) (fun k=>⟨[(0,.imm (.string s)),(21,iv s.size),(22,iv (k:Int))],[]⟩) (⟨by omega,fun j hj=>absurd hj zO⟩) ?_ (fun k hk hp=>?_)))
 ·exact zR hL (zC E (zC E (zC E SubT.nil))) SubO.nil
 refine qd (qb (zA E (qj E E E E) (zK (qd (qo E (fun c1=>?_) (fun c1=>?_))))))
 ·simp only[↓cqA,cqB]at c1
  refine qr (qa (qd (qv (qd (qb (zX E (zX E ?_)))))));refine zK (qd (qb (zX E (zX E (zA E (qeb E qbA E E zO zO) (qH (avs:=[_]) true E E E zD qmZ E E (Inner_ok _) E E (zA E (qaB E E) (zK (qo E (fun c2=>?_) (fun c2=>?_))))))))))
  ·simp only[↓cqA,cqB]at c2
   refine qd (qb (zX E (zK (qn (qP (qm (qm (qP (qm (zI hL (qg E qh) ?_ ?_))))))))))
   ·rfl
   refine ⟨q7 ?_,rfl⟩
   symm;simp only [qjI,Bool.and_eq_false_iff];right
   rw [List.all_eq_false];exact ⟨k,by simp;omega,by simp [c2]⟩
  simp only[↓cqA,cqB]at c2
  refine qr (qR (qa (qb (zA E (qO E E E zO) (zX E (zK ?_))))));refine ⟨?_,?_,?_⟩
  ·omega
  ·refine ⟨by omega,fun j hj=>?_⟩
   by_cases hjk:j<k
   ·exact hp.2 j hjk
   ·rw [show j=k by omega];exact c2
  exact zR hL (zC E (zC E (zC E SubT.nil))) SubO.nil
 simp only[↓cqA,cqB]at c1
 refine qV (qq (qq (qad ?_)));refine qa (qd (qb (zX E (zK (qn (zI hL (qg E qh) ?_ ?_))))))
 ·rfl
 refine ⟨q7 ?_,rfl⟩
 symm;simp only [qjI,Bool.and_eq_true,decide_eq_true_eq,List.all_eq_true,List.mem_range]
 exact ⟨⟨⟨h0,by omega⟩,c0⟩,fun j hj=>hp.2 j zO⟩
theorem Name_ok (s:ByteArray):PF 225 [sv s] (bv (qnP s)):=by
 refine qI Tryz.func225 E Tryz.ntmps225 zL fun c hL hQ hDD=>(qd (qb (zX E (zK (qd (qb ?_))))));refine zX E (qH (avs:=[_,_]) true E E E zD qjA E E (qrA s qcR _ qiS qpO) E E (zX E (zK (qn (zI hL (qg E qh) ?_ ?_)))))
 ·rfl
 exact ⟨rfl,rfl⟩
theorem Var_ok (s:ByteArray):PF 172 [sv s] (bv (varB s)):=by
 refine qI Tryz.func172 E Tryz.ntmps172 zL fun c hL hQ hDD=>(qd (qb (zX E (zK (qd (qb ?_))))));refine zX E (qH (avs:=[_,_]) true E E E zD qjA E E (qrA s qcU _ qiT qqk) E E (zX E (zK (qn (zI hL (qg E qh) ?_ ?_)))))
 ·rfl
 exact ⟨rfl,rfl⟩
end Go.Proofs.YtpgceiijoedppaaGreat
namespace Go.Proofs.YtpgceiijoedppaaGreat
open Go Go.RowKit
theorem qik {f:FuncId}{ds:List D}{w:World}{cs:Array Value}(h:PF f [.agg (lift false ds)] (bv true))(hr:qdU w (Here w) ds cs.toList):Calls Tryz.prog f #[.agg cs] w fun e w'=>e=.returned (.bool true)∧Below w.heap.size w w':=by
 let c:Ctx:=⟨w,fun _=>False,Here w,fun _=>undef,fun _=>False,fun _=>False,False,fun _=>False⟩
 let S:Bool→Nat→Prop:=fun f b=>f=false∧b<w.heap.size
 have e0:(fun b=>S false b)=Here w:=funext fun b=>propext ⟨fun h=>h.2,fun h=>⟨rfl,h⟩⟩
 have e1:S false=Here w:=e0
 obtain ⟨h1,h2⟩:=qdU.rep (w:=w) (ρ:=fun _=>undef) (S:=S) (U:=St.U ⟨argT 0 [.agg (lift false ds)],[]⟩) (ds:=ds) (vs:=cs.toList) (by rw [e1];exact hr)
 have hrep:Rep w (fun _=>undef) S (St.U ⟨argT 0 [.agg (lift false ds)],[]⟩) (.agg (lift false ds)) (.agg cs):=by
  simp only [Rep]
  exact ⟨cs.toList,by simp,h2,h1⟩
 have hc:Conc c 1 ⟨argT 0 [.agg (lift false ds)],[]⟩ ⟨#[.agg cs],[]⟩ w (fun _=>undef) S:=by
  refine ⟨rfl,rfl,fun t v ht=>?_,fun l o hl=>(by simp [ok] at hl),fun l l' o o' b hl=>(by simp [ok] at hl),fun l o b f hl=>(by simp [ok] at hl),fun l o b hl=>(by simp [ok] at hl),fun l o b hl=>(by simp [ok] at hl),fun b hb=>(by cases hb.1.1),fun f b hb=>hb.2,fun b hb=>(by cases hb.1),fun b hb=>.inl hb.2,fun l hl=>hl.elim,Fm.start (c:=c) (fun _ h=>h.elim) (fun _ h=>h.elim) (fun b h=>(by cases h.1))⟩
  simp only [argT,qcm] at ht
  split at ht
  ·rename_i e;subst e;simp only [Option.some.injEq] at ht;subst ht;exact hrep
  ·simp [lk] at ht
 refine (h c w [.agg cs] (fun _=>undef) S E (fun l=>⟨fun h=>h.elim,fun h=>by simp [inD,ok] at h⟩) ⟨fun b hb=>(by cases hb.1),fun b h=>h⟩ ⟨⟨fun h=>h.elim⟩⟩ hc).mono ?_
 rintro e w' ⟨v,r,O',rfl,⟨rfl,rfl⟩,ρ',S',hc'⟩
 have hv:=hc'.T 0 _ E
 simp only [Rep] at hv
 have hv':v=.bool true:=by simpa using hv
 subst hv'
 have hf:=hc'.fm
 exact ⟨rfl,hf.os,hf.tape,hf.output,hf.size,fun b hb=>hf.block b hb (fun h=>h)⟩
theorem own:ownKnob Tryz.prog.godebug=none:=by kernel_rfl
theorem and2 {a b:Bool}(h:a=true)(k:b=true):(a&&b)=true:=by rw [h,k];rfl
theorem qgA:laidOutB Tryz.prog=true:=by kernel_rfl
theorem qfB:mapsRowed Tryz.prog=true:=by kernel_rfl
theorem qe7:Tryz.prog.stopsHeard=true:=by kernel_rfl
theorem qgz:Tryz.prog.mayEnter=true:=by kernel_rfl
end Go.Proofs.YtpgceiijoedppaaGreat