/- The row. -/
import Derived.Test.YtpgceiijoedppaaGreatC50
import Derived.Test.YtpgceiijoedppaaGreatRows
set_option linter.unusedVariables false
namespace Go.Proofs.YtpgceiijoedppaaGreat
open Go Go.ChangeShapes Go.WideShapes Go.ChangeAt Go.RowKit
set_option maxRecDepth 100000 in
theorem meetRows_lifted (os:Os)(started:os.Started)(H:Type)(enc:TypeId×Value→H):
    ReturnsInHanded {} Tryz.checked os 4 .any (Rows.meetRowsSpec.pre6 enc Tryz.prog Tryz.f4 Rows.meetRowsRow.domain false) (Rows.meetRowsSpec.post enc Tryz.prog Tryz.f4 false true false false):=by
  refine returnsInHanded_of_change_sized (C:=Tryz.checked) own started (by kernel_rfl) Tryz.func4
    (ChangeSpec.witness6 (enc:=enc) (C:=Tryz.checked) false ⟨#[],#[.agg #[.slice none 0 0,.slice none 0 0,.int .i64 0,.slice none 0 0]],[]⟩ 8 (by kernel_rfl) (by kernel_rfl) (by kernel_rfl) (by kernel_rfl)) ?_
  intro W base args ds gs before hval0 hW hcnd hsz0 _
  have hsz:(DataW.weightsEach Tryz.prog (Tryz.f4.params.toList++Rows.meetRowsSpec.plain.varTypes Tryz.prog) (ds++gs)).all (·≤reachBytes)=true:=hsz0
  have hval:∀ (j:Nat) t v,Tryz.f4.params[j]?=some t→args[j]?=some v→Value.okWide Tryz.prog W .any base t v:=hval0
  have hW':=hW
  obtain ⟨p,q,hA0,hV,rfl,hfz,hnd⟩:=hW
  have hA:DataW.TrodAll enc Tryz.prog W 0 (fun _=>true) true Tryz.f4.params.toList args.toList ds p:=hA0
  rw [Tryz.params4] at hA hval hsz
  obtain ⟨v0,vs0,d0,ds0,p0,q0,hargs,rfl,rfl,h0,r0⟩:=trodAll_cons hA
  obtain ⟨rfl,rfl,rfl⟩:=trodAll_nil r0
  obtain rfl:args=#[v0]:=by cases args;simp_all
  obtain ⟨rfl,rfl⟩:=trodVars_none hV
  have hv:=hval 0 26 v0 E E
  obtain ⟨gs0,hst⟩:=qhw qcn
  obtain ⟨cs,rfl,_,_⟩:∃ cs,v0=.agg cs∧cs.size=Tryz.prog.cellsOf 26∧Row.okWide Tryz.prog W .any base 26 cs:=by
    unfold Value.okWide at hv
    rw [hst] at hv
    exact hv
  have k0:=h0
  have lt0:∀ x∈p0,x.block<W.heap.size:=by obtain ⟨m,hm⟩:=k0;exact DataW.trod_lt m _ _ _ hm
  obtain ⟨fuel,hf⟩:=h0
  have hsz1:(d0.weights Tryz.prog 26).all (·≤reachBytes)=true:=by
    have h2:=hsz
    simp only [List.cons_append,List.nil_append,DataW.weightsEach,List.all_append,Bool.and_eq_true] at h2
    exact h2.1
  obtain ⟨p,hp,hr⟩:=(qj7 W fuel).rd H enc _ _ _ hf hsz1
  clear hA0 hval0 hsz0 hsz
  refine (qik (qps p hp) hr).mono fun e W' ⟨he,bel⟩=>?_
  subst he
  exact ⟨_,rfl,_,_,_,[],_,[],hW',trodAll_mk1 (shut_bool qi7 _),(trodAll_cons_mk (Below.trod qgA (by kernel_rfl) (of_decide_eq_true (by kernel_rfl)) k0 bel lt0) trodAll_mk0),rfl,bel.frame _,fun h=>by cases h⟩
theorem meetRows_k10:(Rows.meetRowsRow.inPlace==Tryz.prog.inPlace 4)=true:=by kernel_rfl
theorem meetRows_k11:(Rows.meetRowsRow.unfollowed==Tryz.prog.unfollowed 4)=true:=by kernel_rfl
theorem meetRows_k12:(Rows.meetRowsRow.recurses==Tryz.prog.recurses 4)=true:=by kernel_rfl
theorem meetRows_k13:(Rows.meetRowsRow.named==Tryz.prog.varsNamed 4)=true:=by kernel_rfl
theorem meetRows_k22:(Rows.meetRowsRow.plainKeys==Tryz.prog.plainKeys)=true:=by kernel_rfl
theorem meetRows_k24b:(Rows.meetRowsRow.lifted==Tryz.prog.liftsFinal)=true:=by kernel_rfl
theorem meetRows_closed:joinedFacts Tryz.prog 4 Tryz.f4 Rows.meetRowsSpec Rows.meetRowsRow=true:=
 and2 (and2 (and2 (and2 (and2 (and2 (and2 (and2 (and2 (and2 (and2 (and2 (and2 (and2 (and2 (and2 (and2 (and2 (and2 (and2 (and2 (and2 (and2 (and2 (and2 (and2 (and2 (and2 (and2 (and2 (and2 (by kernel_rfl) qgA) qfB) (by kernel_rfl)) (by kernel_rfl)) (by kernel_rfl)) (by kernel_rfl)) (by kernel_rfl)) (by kernel_rfl)) meetRows_k10) meetRows_k11) meetRows_k12) meetRows_k13) (by kernel_rfl)) (by kernel_rfl)) (by kernel_rfl)) (by kernel_rfl)) (by kernel_rfl)) (by kernel_rfl)) (by kernel_rfl)) (by kernel_rfl)) (by kernel_rfl)) meetRows_k22) (by kernel_rfl)) qe7) qgz) meetRows_k24b) (by kernel_rfl)) (by kernel_rfl)) (by kernel_rfl)) (by kernel_rfl)) (by kernel_rfl)
theorem meetRows_fnamed:Tryz.pinned.checked.prog.funcNamed Rows.meetRowsRow.func=some 4:=by kernel_rfl
theorem meetRows_inst:Tryz.f4.isInstance Tryz.pinned.checked.prog Rows.meetRowsRow.origin Rows.meetRowsRow.targs:=of_decide_eq_true (by kernel_rfl)
theorem meetRows_wrap:Tryz.f4.isWrapper Tryz.pinned.checked.prog Rows.meetRowsRow.wrapper Rows.meetRowsRow.mainSum:=by
 unfold Func.isWrapper;first|(rw [if_pos (by decide +kernel)];kernel_rfl)|(rw [if_neg (by decide +kernel)];exact ⟨rfl,rfl⟩)
theorem meetRows_over:Rows.meetRowsRow.holds Tryz.pinned (OpenSpec.ofChange Rows.meetRowsSpec):=
 OpenClaim.holds_of_wide 4 Tryz.f4 E E E E E E E ⟨rfl,rfl,rfl,rfl,rfl⟩ E E E E E meetRows_fnamed Tryz.func4 meetRows_closed meetRows_inst meetRows_wrap
  (fun os started H enc _=>meetRows_lifted os started H enc)
/-- The row. -/
theorem meetRows_holds:Rows.MeetRowsSaid:=meetRows_over
end Go.Proofs.YtpgceiijoedppaaGreat