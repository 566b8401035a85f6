/- The row. -/
import Derived.Test.YtpgceiijoedppaaGreatC50
import Derived.Test.YtpgceiijoedppaaGreatRows
set_option linter.unusedVariables false
namespace Go.Proofs.YtpgceiijoedppaaGreat
open Go Go.ChangeShapes Go.WideShapes Go.ChangeAt Go.RowKit
set_option maxRecDepth 100000 in
theorem meetOrs_lifted (os:Os)(started:os.Started)(H:Type)(enc:TypeId×Value→H):
    ReturnsInHanded {} Tryz.checked os 6 .any (Rows.meetOrsSpec.pre6 enc Tryz.prog Tryz.f6 Rows.meetOrsRow.domain false) (Rows.meetOrsSpec.post enc Tryz.prog Tryz.f6 false true false false):=by
  refine returnsInHanded_of_change_sized (C:=Tryz.checked) own started (by kernel_rfl) Tryz.func6
    (ChangeSpec.witness6 (enc:=enc) (C:=Tryz.checked) false ⟨#[],#[.agg #[.slice none 0 0,.slice none 0 0,.int .i64 0,.slice none 0 0]],[]⟩ 8 (by kernel_rfl) (by kernel_rfl) (by kernel_rfl) (by kernel_rfl)) ?_
  intro W base args ds gs before hval0 hW hcnd hsz0 _
  have hsz:(DataW.weightsEach Tryz.prog (Tryz.f6.params.toList++Rows.meetOrsSpec.plain.varTypes Tryz.prog) (ds++gs)).all (·≤reachBytes)=true:=hsz0
  have hval:∀ (j:Nat) t v,Tryz.f6.params[j]?=some t→args[j]?=some v→Value.okWide Tryz.prog W .any base t v:=hval0
  have hW':=hW
  obtain ⟨p,q,hA0,hV,rfl,hfz,hnd⟩:=hW
  have hA:DataW.TrodAll enc Tryz.prog W 0 (fun _=>true) true Tryz.f6.params.toList args.toList ds p:=hA0
  rw [Tryz.params6] at hA hval hsz
  obtain ⟨v0,vs0,d0,ds0,p0,q0,hargs,rfl,rfl,h0,r0⟩:=trodAll_cons hA
  obtain ⟨rfl,rfl,rfl⟩:=trodAll_nil r0
  obtain rfl:args=#[v0]:=by cases args;simp_all
  obtain ⟨rfl,rfl⟩:=trodVars_none hV
  have hv:=hval 0 26 v0 E E
  obtain ⟨gs0,hst⟩:=qhw qcn
  obtain ⟨cs,rfl,_,_⟩:∃ cs,v0=.agg cs∧cs.size=Tryz.prog.cellsOf 26∧Row.okWide Tryz.prog W .any base 26 cs:=by
    unfold Value.okWide at hv
    rw [hst] at hv
    exact hv
  have k0:=h0
  have lt0:∀ x∈p0,x.block<W.heap.size:=by obtain ⟨m,hm⟩:=k0;exact DataW.trod_lt m _ _ _ hm
  obtain ⟨fuel,hf⟩:=h0
  have hsz1:(d0.weights Tryz.prog 26).all (·≤reachBytes)=true:=by
    have h2:=hsz
    simp only [List.cons_append,List.nil_append,DataW.weightsEach,List.all_append,Bool.and_eq_true] at h2
    exact h2.1
  obtain ⟨p,hp,hr⟩:=(qj7 W fuel).rd H enc _ _ _ hf hsz1
  clear hA0 hval0 hsz0 hsz
  refine (qik (qrn p hp) hr).mono fun e W' ⟨he,bel⟩=>?_
  subst he
  exact ⟨_,rfl,_,_,_,[],_,[],hW',trodAll_mk1 (shut_bool qi7 _),(trodAll_cons_mk (Below.trod qgA (by kernel_rfl) (of_decide_eq_true (by kernel_rfl)) k0 bel lt0) trodAll_mk0),rfl,bel.frame _,fun h=>by cases h⟩
theorem meetOrs_k10:(Rows.meetOrsRow.inPlace==Tryz.prog.inPlace 6)=true:=by kernel_rfl
theorem meetOrs_k11:(Rows.meetOrsRow.unfollowed==Tryz.prog.unfollowed 6)=true:=by kernel_rfl
theorem meetOrs_k12:(Rows.meetOrsRow.recurses==Tryz.prog.recurses 6)=true:=by kernel_rfl
theorem meetOrs_k13:(Rows.meetOrsRow.named==Tryz.prog.varsNamed 6)=true:=by kernel_rfl
theorem meetOrs_k22:(Rows.meetOrsRow.plainKeys==Tryz.prog.plainKeys)=true:=by kernel_rfl
theorem meetOrs_k24b:(Rows.meetOrsRow.lifted==Tryz.prog.liftsFinal)=true:=by kernel_rfl
theorem meetOrs_closed:joinedFacts Tryz.prog 6 Tryz.f6 Rows.meetOrsSpec Rows.meetOrsRow=true:=
 and2 (and2 (and2 (and2 (and2 (and2 (and2 (and2 (and2 (and2 (and2 (and2 (and2 (and2 (and2 (and2 (and2 (and2 (and2 (and2 (and2 (and2 (and2 (and2 (and2 (and2 (and2 (and2 (and2 (and2 (and2 (by kernel_rfl) qgA) qfB) (by kernel_rfl)) (by kernel_rfl)) (by kernel_rfl)) (by kernel_rfl)) (by kernel_rfl)) (by kernel_rfl)) meetOrs_k10) meetOrs_k11) meetOrs_k12) meetOrs_k13) (by kernel_rfl)) (by kernel_rfl)) (by kernel_rfl)) (by kernel_rfl)) (by kernel_rfl)) (by kernel_rfl)) (by kernel_rfl)) (by kernel_rfl)) (by kernel_rfl)) meetOrs_k22) (by kernel_rfl)) qe7) qgz) meetOrs_k24b) (by kernel_rfl)) (by kernel_rfl)) (by kernel_rfl)) (by kernel_rfl)) (by kernel_rfl)
theorem meetOrs_fnamed:Tryz.pinned.checked.prog.funcNamed Rows.meetOrsRow.func=some 6:=by kernel_rfl
theorem meetOrs_inst:Tryz.f6.isInstance Tryz.pinned.checked.prog Rows.meetOrsRow.origin Rows.meetOrsRow.targs:=of_decide_eq_true (by kernel_rfl)
theorem meetOrs_wrap:Tryz.f6.isWrapper Tryz.pinned.checked.prog Rows.meetOrsRow.wrapper Rows.meetOrsRow.mainSum:=by
 unfold Func.isWrapper;first|(rw [if_pos (by decide +kernel)];kernel_rfl)|(rw [if_neg (by decide +kernel)];exact ⟨rfl,rfl⟩)
theorem meetOrs_over:Rows.meetOrsRow.holds Tryz.pinned (OpenSpec.ofChange Rows.meetOrsSpec):=
 OpenClaim.holds_of_wide 6 Tryz.f6 E E E E E E E ⟨rfl,rfl,rfl,rfl,rfl⟩ E E E E E meetOrs_fnamed Tryz.func6 meetOrs_closed meetOrs_inst meetOrs_wrap
  (fun os started H enc _=>meetOrs_lifted os started H enc)
/-- The row. -/
theorem meetOrs_holds:Rows.MeetOrsSaid:=meetOrs_over
end Go.Proofs.YtpgceiijoedppaaGreat