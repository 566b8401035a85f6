/- The row. -/
import Derived.Test.YtpgceiijoedppaaGreatC50
import Derived.Test.YtpgceiijoedppaaGreatRows
set_option linter.unusedVariables false
namespace Go.Proofs.YtpgceiijoedppaaGreat
open Go Go.ChangeShapes Go.WideShapes Go.ChangeAt Go.RowKit
set_option maxRecDepth 100000 in
theorem meetRels_lifted (os:Os)(started:os.Started)(H:Type)(enc:TypeId×Value→H):
    ReturnsInHanded {} Tryz.checked os 7 .any (Rows.meetRelsSpec.pre6 enc Tryz.prog Tryz.f7 Rows.meetRelsRow.domain false) (Rows.meetRelsSpec.post enc Tryz.prog Tryz.f7 false true false false):=by
  refine returnsInHanded_of_change_sized (C:=Tryz.checked) own started (by kernel_rfl) Tryz.func7
    (ChangeSpec.witness6 (enc:=enc) (C:=Tryz.checked) false ⟨#[],#[.agg #[.slice none 0 0,.slice none 0 0,.int .i64 0,.slice none 0 0]],[]⟩ 8 (by kernel_rfl) (by kernel_rfl) (by kernel_rfl) (by kernel_rfl)) ?_
  intro W base args ds gs before hval0 hW hcnd hsz0 _
  have hsz:(DataW.weightsEach Tryz.prog (Tryz.f7.params.toList++Rows.meetRelsSpec.plain.varTypes Tryz.prog) (ds++gs)).all (·≤reachBytes)=true:=hsz0
  have hval:∀ (j:Nat) t v,Tryz.f7.params[j]?=some t→args[j]?=some v→Value.okWide Tryz.prog W .any base t v:=hval0
  have hW':=hW
  obtain ⟨p,q,hA0,hV,rfl,hfz,hnd⟩:=hW
  have hA:DataW.TrodAll enc Tryz.prog W 0 (fun _=>true) true Tryz.f7.params.toList args.toList ds p:=hA0
  rw [Tryz.params7] at hA hval hsz
  obtain ⟨v0,vs0,d0,ds0,p0,q0,hargs,rfl,rfl,h0,r0⟩:=trodAll_cons hA
  obtain ⟨rfl,rfl,rfl⟩:=trodAll_nil r0
  obtain rfl:args=#[v0]:=by cases args;simp_all
  obtain ⟨rfl,rfl⟩:=trodVars_none hV
  have hv:=hval 0 26 v0 E E
  obtain ⟨gs0,hst⟩:=qhw qcn
  obtain ⟨cs,rfl,_,_⟩:∃ cs,v0=.agg cs∧cs.size=Tryz.prog.cellsOf 26∧Row.okWide Tryz.prog W .any base 26 cs:=by
    unfold Value.okWide at hv
    rw [hst] at hv
    exact hv
  have k0:=h0
  have lt0:∀ x∈p0,x.block<W.heap.size:=by obtain ⟨m,hm⟩:=k0;exact DataW.trod_lt m _ _ _ hm
  obtain ⟨fuel,hf⟩:=h0
  have hsz1:(d0.weights Tryz.prog 26).all (·≤reachBytes)=true:=by
    have h2:=hsz
    simp only [List.cons_append,List.nil_append,DataW.weightsEach,List.all_append,Bool.and_eq_true] at h2
    exact h2.1
  obtain ⟨p,hp,hr⟩:=(qj7 W fuel).rd H enc _ _ _ hf hsz1
  clear hA0 hval0 hsz0 hsz
  refine (qik (qpt p hp) hr).mono fun e W' ⟨he,bel⟩=>?_
  subst he
  exact ⟨_,rfl,_,_,_,[],_,[],hW',trodAll_mk1 (shut_bool qi7 _),(trodAll_cons_mk (Below.trod qgA (by kernel_rfl) (of_decide_eq_true (by kernel_rfl)) k0 bel lt0) trodAll_mk0),rfl,bel.frame _,fun h=>by cases h⟩
theorem meetRels_k10:(Rows.meetRelsRow.inPlace==Tryz.prog.inPlace 7)=true:=by kernel_rfl
theorem meetRels_k11:(Rows.meetRelsRow.unfollowed==Tryz.prog.unfollowed 7)=true:=by kernel_rfl
theorem meetRels_k12:(Rows.meetRelsRow.recurses==Tryz.prog.recurses 7)=true:=by kernel_rfl
theorem meetRels_k13:(Rows.meetRelsRow.named==Tryz.prog.varsNamed 7)=true:=by kernel_rfl
theorem meetRels_k22:(Rows.meetRelsRow.plainKeys==Tryz.prog.plainKeys)=true:=by kernel_rfl
theorem meetRels_k24b:(Rows.meetRelsRow.lifted==Tryz.prog.liftsFinal)=true:=by kernel_rfl
theorem meetRels_closed:joinedFacts Tryz.prog 7 Tryz.f7 Rows.meetRelsSpec Rows.meetRelsRow=true:=
 and2 (and2 (and2 (and2 (and2 (and2 (and2 (and2 (and2 (and2 (and2 (and2 (and2 (and2 (and2 (and2 (and2 (and2 (and2 (and2 (and2 (and2 (and2 (and2 (and2 (and2 (and2 (and2 (and2 (and2 (and2 (by kernel_rfl) qgA) qfB) (by kernel_rfl)) (by kernel_rfl)) (by kernel_rfl)) (by kernel_rfl)) (by kernel_rfl)) (by kernel_rfl)) meetRels_k10) meetRels_k11) meetRels_k12) meetRels_k13) (by kernel_rfl)) (by kernel_rfl)) (by kernel_rfl)) (by kernel_rfl)) (by kernel_rfl)) (by kernel_rfl)) (by kernel_rfl)) (by kernel_rfl)) (by kernel_rfl)) meetRels_k22) (by kernel_rfl)) qe7) qgz) meetRels_k24b) (by kernel_rfl)) (by kernel_rfl)) (by kernel_rfl)) (by kernel_rfl)) (by kernel_rfl)
theorem meetRels_fnamed:Tryz.pinned.checked.prog.funcNamed Rows.meetRelsRow.func=some 7:=by kernel_rfl
theorem meetRels_inst:Tryz.f7.isInstance Tryz.pinned.checked.prog Rows.meetRelsRow.origin Rows.meetRelsRow.targs:=of_decide_eq_true (by kernel_rfl)
theorem meetRels_wrap:Tryz.f7.isWrapper Tryz.pinned.checked.prog Rows.meetRelsRow.wrapper Rows.meetRelsRow.mainSum:=by
 unfold Func.isWrapper;first|(rw [if_pos (by decide +kernel)];kernel_rfl)|(rw [if_neg (by decide +kernel)];exact ⟨rfl,rfl⟩)
theorem meetRels_over:Rows.meetRelsRow.holds Tryz.pinned (OpenSpec.ofChange Rows.meetRelsSpec):=
 OpenClaim.holds_of_wide 7 Tryz.f7 E E E E E E E ⟨rfl,rfl,rfl,rfl,rfl⟩ E E E E E meetRels_fnamed Tryz.func7 meetRels_closed meetRels_inst meetRels_wrap
  (fun os started H enc _=>meetRels_lifted os started H enc)
/-- The row. -/
theorem meetRels_holds:Rows.MeetRelsSaid:=meetRels_over
end Go.Proofs.YtpgceiijoedppaaGreat