/- Part 17 of the proof: Ng. -/
import Derived.Test.YtpgceiijoedppaaGreatB16
set_option linter.unusedVariables false
set_option linter.unusedSimpArgs false
set_option maxRecDepth 8000
namespace Go.Proofs.YtpgceiijoedppaaGreat
open Go
def MayPC (d : Nat) : Prop := ∀ (e : Int), e = d → ∀ (t : Pt) (n : Int), t.wf → 0 ≤ n → n ≤ 24 → AC Tryz.prog 166 [ptA false t, iv e, .ptr 0 0] [(0, .box [iv n])] (fun r O => r = bv (qcz d t n).1 ∧ O = [(0, .box [iv (qcz d t n).2])])
theorem mayP1_ok (d : Nat) (hd : d < 8) (ih : MayPC d) (e : Int) (he : e = d + 1) (t : Pt) (n : Int) (ht : t.wf) (h0 : 0 ≤ n) (h1 : n ≤ 24) : AC Tryz.prog 230 [ptA false t, .ptr 4 0, .ptr 5 0] [(4, .box [iv e]), (5, .box [.ptr 0 0]), (0, .box [iv n])]
  (fun r O => r = bv (!(qcz d t n).1) ∧ O = [(4, .box [iv e]), (5, .box [.ptr 0 0]), (0, .box [iv (qcz d t n).2])]) := by
 refine qF Tryz.func230 E Tryz.ntmps230 zL fun c hL hQ hDD => (qd (qb (qy E E zD (qaa 3 E E E) E (zX E (zK (qd ?_)))))); refine qb (zA E (qK E qad E E E E) (zA E (ql E qU E E E E E) ?_))
 refine zA E (qa0 E E E (by omega)) ?_; refine zA E (ql E tf_P_int E E E E E) ?_; refine qaj (avs := [_, _, _]) true E E E zD en_show_may E E (ih (e - 1) (by omega) t n ht h0 h1) E (qbX (.cons E trivial E .nil)) (by rintro r O' ⟨rfl, rfl⟩ l hl; exact .inl ((qdr (by rfl) l).trans hl)) (by rintro - r O' ⟨rfl, rfl⟩; exact ⟨rfl, rfl⟩) ?_
 rintro r O' ⟨rfl, rfl⟩
 refine zA E (qal E E) (zX E (zK (qo ?_)))
 change retQ _ _ _ _ _ _ _
 refine retO (O' := [(4, _), (5, _), (0, _)]) (.inl E) (qh E qi) (SubO.cons E (SubO.cons E (SubO.cons E SubO.nil))) ?_ ?_ ?_ ?_
 ·rfl
 ·rfl
 ·exact LO hL E
 ·exact ⟨rfl, rfl⟩
theorem mayPfin {D : Nat} {t : Pt} {n m : Int} {b : Bool} (h : qcz D t n = (b, m)) : resV [bv b] = bv (qcz D t n).1 ∧ [(0, Ob.box [iv m])] = [(0, Ob.box [iv (qcz D t n).2])] := by rw [h]; exact ⟨rfl, rfl⟩
theorem fields_len {t : Pt} (hf : qbx t = true) (hk : ¬ t.kind = 1) : t.l.length = 1 ∧ t.r.length = 1 ∧ t.c.length ≤ 1 := by
 rw [qbx, if_neg hk] at hf
 split at hf
 ·simp only [Bool.and_eq_true, decide_eq_true_eq] at hf
  obtain ⟨⟨⟨⟨h1, h2⟩, h3⟩, _⟩, _⟩ := hf
  exact ⟨h1, h2, by rw [h3]; split <;> omega⟩
 ·cases hf
theorem mayP_ok : ∀ d : Nat, d ≤ 8 → MayPC d := by
  intro d
  induction d with
  | zero =>
    intro hd e he t n ht h0 h1
    refine qF Tryz.func166 E Tryz.ntmps166 zL fun c hL hQ hDD => (qd (qb (qy E E zD (qaa 3 E E E) E (qy E E zD (qaa 4 E E E) E (qy E E zD (qaa 5 E E E) E (zX E (qc ?_))))))); refine qa (qd (qd (qb (zA E (ql E qU E E E E E) (zA E (qj E E E E) (zX E (qt 9 E (fun g9 => ?_) (fun g9 => ?_))))))))
    · try simp only[↓cqA,cqB]at g9
      refine zY E (zY E (zY E (zA E (qg E E E) (zK (qaN E (qd ?_)))))); refine qb (zX E (zK (qo (qm ?_))))
      change retQ _ _ _ _ _ _ _
      refine retO (O' := [(0, _)]) (.inl E) (qh E qi) (SubO.cons E SubO.nil) ?_ ?_ ?_ ?_
      · rfl
      · rfl
      · exact LO hL E
      exact mayPfin (by simp [qcz])
    try simp only[↓cqA,cqB]at g9
    omega
  | succ d ih =>
    intro hd e he t n ht h0 h1
    obtain ⟨hlL, hwL⟩ := ht.2.2.2.1
    obtain ⟨hlR, hwR⟩ := ht.2.2.2.2.1
    obtain ⟨hlC, hwC⟩ := ht.2.2.2.2.2
    have hwA : ∀ u ∈ t.l ++ t.r ++ t.c, u.wf := fun u hu => by
      rcases List.mem_append.1 hu with hu | hu
      · rcases List.mem_append.1 hu with hu | hu
        · exact Pt.wfs_iff.1 hwL u hu
        · exact Pt.wfs_iff.1 hwR u hu
      · exact Pt.wfs_iff.1 hwC u hu
    refine qF Tryz.func166 E Tryz.ntmps166 zL fun c hL hQ hDD => (qd (qb (qy E E zD (qaa 3 E E E) E (qy E E zD (qaa 4 E E E) E (qy E E zD (qaa 5 E E E) E (zX E (qc ?_))))))); refine qa (qd (qd (qb (zA E (ql E qU E E E E E) (zA E (qj E E E E) (zX E (qt 9 E (fun g9 => ?_) (fun g9 => ?_))))))))
    · try simp only[↓cqA,cqB]at g9
      omega
    try simp only[↓cqA,cqB]at g9
    refine zZ E (qK E qad E E E E) (zZ E (qY (avs := [_]) true E en_show_fields E E (fields_ok t ht) (fun _ => rfl) E) (zZ E (qal E E) (zA E (qg E E E) (zK (qq E (fun c0 => ?_) (fun c0 => ?_))))))
    · try simp only[↓cqA,cqB]at c0
      refine qd (qb (zX E (zK (qo (qm ?_)))))
      change retQ _ _ _ _ _ _ _
      refine retO (O' := [(0, _)]) (.inl E) (qh E qi) (SubO.cons E SubO.nil) ?_ ?_ ?_ ?_
      · rfl
      · rfl
      · exact LO hL E
      refine mayPfin ?_
      first
        | (rw [qcz, if_neg (by first | (rw [show qbx t = false by assumption]; exact Bool.noConfusion) | (intro h; simp [h] at c0))]; done)
        | (rw [qcz, if_pos hf, if_pos (show t.kind = 1 by assumption)]; done)
        | (rw [qcz, if_pos hf, if_neg (show ¬ t.kind = 1 by assumption), hend]; done)
        | (rw [qcz, if_pos hf, if_pos (show t.kind = 1 by assumption)]; rfl)
        | trace_state
    try simp only[↓cqA,cqB]at c0
    have hf : qbx t = true := by first | assumption | (simpa using c0)
    refine qr (qa (qd (qd (qb (zA E (qe E qao E) (zA E (ql E qU E E E E E) (zA E (qj E E E E) ?_))))))); refine zK (qq E (fun c1 => ?_) (fun c1 => ?_))
    · try simp only[↓cqA,cqB]at c1
      refine qd (qb (zA E (ql E tf_P_int E E E E E) (zA E (qcI E E) (zA E (ql E qU E E E E E) (zA E (qa0 E E E (by omega)) (zA E (qcI E E) (qae E E E qU E E E E E E E E E ?_))))))); refine zK (qd (qb ?_))
      refine zA E (ql E tf_P_int E E E E E) (zA E (qcI E E) (zA E (ql E qU E E E E E) (zA E (qj E E E E) (zX E (zK (qo ?_)))))); refine qm ?_
      change retQ _ _ _ _ _ _ _
      refine retO (O' := [(0, _)]) (.inl E) (qh E qi) (SubO.cons E SubO.nil) ?_ ?_ ?_ ?_
      · rfl
      · rfl
      · exact LO hL E
      refine mayPfin ?_
      first
        | (rw [qcz, if_neg (by first | (rw [show qbx t = false by assumption]; exact Bool.noConfusion) | (intro h; simp [h] at c0))]; done)
        | (rw [qcz, if_pos hf, if_pos (show t.kind = 1 by assumption)]; done)
        | (rw [qcz, if_pos hf, if_neg (show ¬ t.kind = 1 by assumption), hend]; done)
        | (rw [qcz, if_pos hf, if_pos (show t.kind = 1 by assumption)]; rfl)
        | trace_state
    try simp only[↓cqA,cqB]at c1
    obtain ⟨hl1, hr1, hc1⟩ := fields_len hf (by assumption)
    have hcl : (t.l ++ t.r ++ t.c).length ≤ 3 := by simp only [List.length_append]; omega
    have hmap : ([ptDs t.l, ptDs t.r, ptDs t.c] : List (List (List D))).flatten = (t.l ++ t.r ++ t.c).map ptD := by simp [ptDs_map]
    have hcat := Concat_pt_ok [ptDs t.l, ptDs t.r, ptDs t.c] (fun es hes x hx => by
      simp only [List.mem_cons, List.not_mem_nil, or_false] at hes
      rcases hes with rfl | rfl | rfl <;> exact ptDs_len9 _ x hx) (by rw [hmap, List.length_map]; omega) (by simp)
    rw [hmap] at hcat
    have hst : ∀ k u, (t.l ++ t.r ++ t.c)[k]? = some u → (∀ j, j < k → thrP (qcz d) (t.l ++ t.r ++ t.c) n j = false) → AC Tryz.prog 230 [ptA false u, .ptr 4 0, .ptr 5 0] [(4, .box [iv e]), (5, .box [.ptr 0 0]), (0, .box [iv (thrK (qcz d) (t.l ++ t.r ++ t.c) n k)])]
        (fun r O => r = bv (thrP (qcz d) (t.l ++ t.r ++ t.c) n k) ∧ O = [(4, .box [iv e]), (5, .box [.ptr 0 0]), (0, .box [iv (thrK (qcz d) (t.l ++ t.r ++ t.c) n (k + 1))])]) := fun k u hu hj => by
      obtain ⟨e1, e2⟩ := thrK_step (qcz d) (t.l ++ t.r ++ t.c) n k u hu hj
      have hkl : k < (t.l ++ t.r ++ t.c).length := by have := List.getElem?_eq_some_iff.1 hu; exact this.1
      have hr := thrK_range (qcz d) (fun t n hn => mayPt_range d t n hn) (t.l ++ t.r ++ t.c) n k (by omega) hj (by omega)
      rw [e1, e2]
      exact mayP1_ok d (by omega) (ih (by omega)) e (by omega) u _ (hwA u (List.mem_of_getElem? hu)) hr.1 (by omega)
    refine qr (qa (qd (qb (zA E (qe E qaQ E) (zA E (ql E qM E E E E E) (zA E (qe E qaP E) (zA E (ql E qM E E E E E) ?_))))))); refine zA E (qe E qaK E) ?_
    refine zA E (ql E qM E E E E E) ?_; refine zA E (stp_buildSliceD false E qco zv_S_api_Pattern E E zD zD zD E E E E) ?_; refine qaj (avs := [_]) false E E E zD qc3 E E (hcat) E (qbX .nil) (by rintro r O' ⟨_, rfl⟩; exact frB E) (by rintro h; cases h) ?_
    rintro r O' ⟨rfl, rfl⟩
    refine zA E (qdL (vs := [_, _]) E E) ?_
    refine qaj (avs := [_, _]) true E E E zD qcB E E (ContainsFunc_pt_ok true (t.l ++ t.r ++ t.c) _ E (by omega) _ [.ptr 4 0, .ptr 5 0] en_show_may_1 (fun k => [(4, .box [iv e]), (5, .box [.ptr 0 0]), (0, .box [iv (thrK (qcz d) (t.l ++ t.r ++ t.c) n k)])]) (thrP (qcz d) (t.l ++ t.r ++ t.c) n) ⟨fun k l => qdr (by rfl) l, fun k => qbX (.cons E trivial E (.cons E trivial E (.cons E trivial E .nil))), fun k => rfl, fun k => rfl, fun k => rfl, fun k => rfl, fun _ k => rfl⟩ (fun k u hu hj => hst k u hu hj)) E (qbX (.cons E trivial E (.cons E trivial E (.cons E trivial E .nil)))) (by rintro r O' ⟨m, k, b, _, _, _, _, rfl⟩ l hl; exact .inl ((qdr (by rfl) l).trans hl)) (by rintro - r O' ⟨m, k, b, _, _, _, rfl, rfl⟩; exact ⟨rfl, rfl⟩) ?_
    rintro r O' ⟨m, k, b, hm, hfm, hc, rfl, rfl⟩
    have hend := mayPtL_end (qcz d) (t.l ++ t.r ++ t.c) n m k b hfm hc
    refine zA E (qal E E) (zX E (zK (qo ?_)))
    change retQ _ _ _ _ _ _ _
    refine retO (O' := [(0, _)]) (.inl E) (qh E qi) (SubO.cons E SubO.nil) ?_ ?_ ?_ ?_
    · rfl
    · rfl
    · exact LO hL E
    refine mayPfin ?_
    first
      | (rw [qcz, if_neg (by first | (rw [show qbx t = false by assumption]; exact Bool.noConfusion) | (intro h; simp [h] at c0))]; done)
      | (rw [qcz, if_pos hf, if_pos (show t.kind = 1 by assumption)]; done)
      | (rw [qcz, if_pos hf, if_neg (show ¬ t.kind = 1 by assumption), hend]; done)
      | (rw [qcz, if_pos hf, if_pos (show t.kind = 1 by assumption)]; rfl)
      | trace_state
theorem showIs_ok (p : Pt) (hp : p.wf) : PF 111 [ptA false p] (bv (okP p)) := by
 have key := AC_rnE 0 3 (mayP_ok 8 (by omega) 8 E p 12 hp (by omega) (by omega))
 refine qF Tryz.func111 E Tryz.ntmps111 zL fun c hL hQ hDD => (qd (qb (qy E E zD (qaa 1 E E E) E (zX E (zK (qd ?_)))))); refine qb (qy E E zD (qaD 3 E zv_int E) E (qae E E E qU E E E E E E E E E (zK (qd (qb ?_)))))
 refine zA E (qK E qad E E E E) ?_; refine qaj (avs := [_, _, _]) true E E E zD en_show_may E E (key) E (qbX (.cons E trivial E .nil)) (by rintro r O' ⟨rfl, rfl⟩ l hl; exact .inl ((qdr (by rfl) l).trans hl)) (by rintro - r O' ⟨rfl, rfl⟩; exact ⟨rfl, rfl⟩) ?_
 rintro r O' ⟨rfl, rfl⟩
 refine zX E (zK (qo (zI hL (qh E qi) ?_ ?_)))
 ·rfl
 exact ⟨rfl, rfl⟩
theorem showRule_ok (r : Rl) (hr : r.wf) : PF 64 [rlA r] (bv (okR r)) := by
 obtain ⟨h1, h2, h3, _⟩ := id hr
 refine qF Tryz.func64 E Tryz.ntmps64 zL fun c hL hQ hDD => (qd (qb (qy E E zD (qaa 1 E E E) E (zX E (zK (qd ?_)))))); refine qb (zA E (qe E qcs E) (zA E (qe E qar E) (zA E (ql E qU E E E E E) (zA E (qj E E E E) (zX E (qt 7 E (fun g7 => ?_) (fun g7 => ?_)))))))
 ·try simp only[↓cqA,cqB]at g7
  refine zZ E (qe E qcs E) (zZ E (ql E qw E E E E E) (zZ E (qY (avs := [_]) true E qcL E E (May_ok r.head h1) (fun _ => rfl) E) (zA E (qg E E E) (zX E (qt 12 E (fun g12 => ?_) (fun g12 => ?_))))))
  ·try simp only[↓cqA,cqB]at g12
   refine zZ E (qe E qdn E) (zZ E (ql E qad E E E E E) (zZ E (qY (avs := [_]) true E en_show_Is E E (showIs_ok r.body h2) (fun _ => rfl) E) (zA E (qg E E E) (zX E (qt 17 E (fun g17 => ?_) (fun g17 => ?_))))))
   ·try simp only[↓cqA,cqB]at g17
    refine zZ E (qe E qdW E) (zZ E (ql E qdz E E E E E) (zZ E (qY (avs := [_]) true E en_show_Guards E E (showGuards_ok r.g h3.1 h3.2) (fun _ => rfl) E) (zA E (qg E E E) (zX E (qt 22 E (fun g22 => ?_) (fun g22 => ?_))))))
    ·try simp only[↓cqA,cqB]at g22
     refine zZ E (qe E fo_api_Rule_3 E) (zZ E (ql E qU E E E E E) (zZ E (qj E E E E) (zA E (qg E E E) (zX E (qt 27 E (fun g27 => ?_) (fun g27 => ?_))))))
     ·try simp only[↓cqA,cqB]at g27
      refine zZ E (qe E fo_api_Rule_3 E) (zZ E (ql E qU E E E E E) (zZ E (qj E E E E) (zA E (qg E E E) (zX E (qt 32 E (fun g32 => ?_) (fun g32 => ?_))))))
      ·try simp only[↓cqA,cqB]at g32
       refine zZ E (qe E qdm E) (zZ E (ql E qU E E E E E) (zZ E (qj E E E E) (zA E (qg E E E) (zX E (qt 37 E (fun g37 => ?_) (fun g37 => ?_))))))
       ·try simp only[↓cqA,cqB]at g37
        refine zZ E (qe E qdm E) (zZ E (ql E qU E E E E E) (zZ E (qj E E E E) (zA E (qg E E E) (zX E (zK (qo (zI hL (qh E qi) ?_ ?_)))))))
        ·rfl
        refine ⟨qT ?_, rfl⟩
        first | (simp_all [okR]; done) | (simp_all [okR]; omega) | (simp_all [okR]; intros; omega)
       try simp only[↓cqA,cqB]at g37
       refine zY E (zY E (zY E (zA E (qg E E E) (zX E (zK (qo (zI hL (qh E qi) ?_ ?_)))))))
       ·rfl
       refine ⟨qT ?_, rfl⟩
       first | (simp_all [okR]; done) | (simp_all [okR]; omega) | (simp_all [okR]; intros; omega)
      try simp only[↓cqA,cqB]at g32
      refine zY E (zY E (zY E (zA E (qg E E E) (zX E (zY E (zY E (zY E (zA E (qg E E E) (zX E (zK (qo (zI hL (qh E qi) ?_ ?_))))))))))))
      ·rfl
      refine ⟨qT ?_, rfl⟩
      first | (simp_all [okR]; done) | (simp_all [okR]; omega) | (simp_all [okR]; intros; omega)
     try simp only[↓cqA,cqB]at g27
     refine zY E (zY E (zY E (zA E (qg E E E) (zX E (zY E (zY E (zY E (zA E (qg E E E) (zX E (zY E (zY E (zY E (zA E (qg E E E) (zX E (zK (qo (zI hL (qh E qi) ?_ ?_)))))))))))))))))
     ·rfl
     refine ⟨qT ?_, rfl⟩
     first | (simp_all [okR]; done) | (simp_all [okR]; omega) | (simp_all [okR]; intros; omega)
    try simp only[↓cqA,cqB]at g22
    refine zY E (zY E (zY E (zA E (qg E E E) (zX E (zY E (zY E (zY E (zA E (qg E E E) (zX E (zY E (zY E ?_)))))))))))
    refine zY E (zA E (qg E E E) (zX E (zY E (zY E (zY E (zA E (qg E E E) (zX E ?_))))))); refine zK (qo (zI hL (qh E qi) ?_ ?_))
    ·rfl
    refine ⟨qT ?_, rfl⟩
    first | (simp_all [okR]; done) | (simp_all [okR]; omega) | (simp_all [okR]; intros; omega)
   try simp only[↓cqA,cqB]at g17
   refine zY E (zY E (zY E (zA E (qg E E E) (zX E (zY E (zY E (zY E (zA E (qg E E E) (zX E (zY E (zY E (zY E (zA E (qg E E E) (zX E (zY E (zY E (zY E ?_)))))))))))))))))
   refine zA E (qg E E E) (zX E (zY E (zY E (zY E (zA E (qg E E E) (zX E (qc ?_))))))); refine qa (qo (zI hL (qh E qi) ?_ ?_))
   ·rfl
   refine ⟨qT ?_, rfl⟩
   first | (simp_all [okR]; done) | (simp_all [okR]; omega) | (simp_all [okR]; intros; omega)
  try simp only[↓cqA,cqB]at g12
  refine zY E (zY E (zY E (zA E (qg E E E) (zX E (zY E (zY E (zY E (zA E (qg E E E) (zX E (zY E (zY E (zY E (zA E (qg E E E) (zX E (zY E (zY E (zY E (zA E (qg E E E) (zX E (zY E (zY E (zY E (zA E (qg E E E) ?_)))))))))))))))))))))))
  refine zX E (zY E (zY E (zY E (zA E (qg E E E) (zX E (zK ?_)))))); refine qo (zI hL (qh E qi) ?_ ?_)
  ·rfl
  refine ⟨qT ?_, rfl⟩
  first | (simp_all [okR]; done) | (simp_all [okR]; omega) | (simp_all [okR]; intros; omega)
 try simp only[↓cqA,cqB]at g7
 refine zY E (zY E (zY E (zA E (qg E E E) (zX E (zY E (zY E (zY E (zA E (qg E E E) (zX E (zY E (zY E (zY E (zA E (qg E E E) (zX E (zY E (zY E (zY E (zA E (qg E E E) (zX E (zY E (zY E (zY E (zA E (qg E E E) ?_)))))))))))))))))))))))
 refine zX E (zY E (zY E (zY E (zA E (qg E E E) (zX E (zY E (zY E (zY E (zA E (qg E E E) (zX E (zK (qo (zI hL (qh E qi) ?_ ?_)))))))))))))
 ·rfl
 refine ⟨qT ?_, rfl⟩
 first | (simp_all [okR]; done) | (simp_all [okR]; omega) | (simp_all [okR]; intros; omega)
theorem parts_pos {d : Nat} {p : Pt} (hk : p.kind = 1) : qcc (d + 1) p = 1 := by rw [qcc, if_pos hk]
theorem sumP_snoc (f : Pt → Int) {l : List Pt} {k : Nat} {u : Pt} (h : l[k]? = some u) : sumP f (l.take (k + 1)) = sumP f (l.take k) + f u := by
 rw [qac h]; simp [sumP]
theorem sumP_app (f : Pt → Int) (l m : List Pt) : sumP f (l ++ m) = sumP f l + sumP f m := by simp [sumP]
theorem partsP_le : ∀ (d : Nat) (p : Pt), patB d p = true → qcc d p ≤ 3 ^ d
  | 0, p, h => by rw [patB] at h; cases h
  | d + 1, p, h => by
    have hp1 : 1 ≤ 3 ^ d := Nat.one_le_pow _ _ (by decide)
    have h3 : (3 : Int) ^ (d + 1) = 3 * 3 ^ d := by rw [Int.pow_succ]; omega
    have hq : (1 : Int) ≤ 3 ^ d := by exact_mod_cast hp1
    rw [qcc]
    split
    · omega
    · rename_i hk
      obtain ⟨_, hl, hr, hc5, _, h1, h2, h4, hc1⟩ := patB_join h hk
      have a1 := partsP_le d _ h1
      have a2 := partsP_le d _ h2
      rw [one_list hl, one_list hr]
      simp only [sumP, List.map_append, List.map_cons, List.map_nil, List.sum_append, List.sum_cons, List.sum_nil]
      by_cases hc : p.c.length = 0
      · rw [List.eq_nil_of_length_eq_zero hc]
        simp; omega
      · have a3 := partsP_le d _ (h4 (hc5.2 (by omega)))
        rw [one_list (l := p.c) (by omega)]
        simp only [List.map_cons, List.map_nil, List.sum_cons, List.sum_nil]
        omega
theorem one_mem {l : List Pt} (h : l.length ≤ 1) {u : Pt} (hu : u ∈ l) : u = hdP l := by
  cases l with
  | nil => cases hu
  | cons a l => cases l with
    | nil => rw [List.mem_singleton.1 hu]; rfl
    | cons b l => simp only [List.length_cons] at h; omega
theorem sumP_one (f : Pt → Int) {l : List Pt} (h : l.length ≤ 1) {B : Int} (hB : 0 ≤ B) (hf : ∀ u ∈ l, 0 ≤ f u ∧ f u ≤ B) (k : Nat) : 0 ≤ sumP f (l.take k) ∧ sumP f (l.take k) ≤ B := by
  cases l with
  | nil => simp [sumP]; exact hB
  | cons a l => cases l with
    | nil =>
      cases k with
      | zero => simp [sumP]; exact hB
      | succ k => simp [sumP]; exact hf a (by simp)
    | cons b l => simp only [List.length_cons] at h; omega
theorem Parts_ok : ∀ (d : Nat), d ≤ 10 → ∀ p : Pt, p.wf → patB d p = true → PF 102 [ptA false p] (iv (qcc d p))
  | 0, _ => fun p _ h => by rw [patB] at h; cases h
  | d + 1, hd => fun p hp hb => by
    have ih := Parts_ok d (by omega)
    have hdl := qaW p.l
    have hdr := qaW p.r
    have hdc := qaW p.c
    have hwL := hp.2.2.2.1.2
    have hwR := hp.2.2.2.2.1.2
    have hwC := hp.2.2.2.2.2.2
    have h3d : (3 : Int) ^ d ≤ 3 ^ 10 := by exact_mod_cast Nat.pow_le_pow_right (by decide : 0 < 3) (by omega : d ≤ 10)
    have h310 : (3 : Int) ^ 10 = 59049 := by decide
    have hrng : ∀ u, patB d u = true → 0 ≤ qcc d u ∧ qcc d u ≤ 59049 := fun u hu => ⟨partsP_ge d u, by have := partsP_le d u hu; omega⟩
    by_cases hk1 : p.kind = 1
    · rw [parts_pos hk1]
      refine qF Tryz.func102 E Tryz.ntmps102 zL fun c hL hQ hDD => (qd (qb (qy E E zD (qaa 1 E E E) E (zX E (zK (qd ?_)))))); refine qd (qb (zA E (qe E qao E) (zA E (ql E qU E E E E E) (zA E (qj E E E E) (zK (qq E (fun c0 => ?_) (fun c0 => ?_)))))))
      · try simp only[↓cqA,cqB]at c0
        refine qd (qb (zX E (zK (qo (qm (zI hL (qh E qi) ?_ ?_))))))
        · rfl
        exact ⟨rfl, rfl⟩
      try simp only[↓cqA,cqB]at c0
      omega
    · obtain ⟨_, hl1, hr1, hc5, _, hbl, hbr, hbc, hc1⟩ := patB_join hb hk1
      have pL : ∀ u ∈ p.l, patB d u = true := fun u hu => by rw [one_mem (by omega) hu]; exact hbl
      have pR : ∀ u ∈ p.r, patB d u = true := fun u hu => by rw [one_mem (by omega) hu]; exact hbr
      have pC : ∀ u ∈ p.c, patB d u = true := fun u hu => by
        rw [one_mem hc1 hu]
        exact hbc (hc5.2 (by have := List.length_pos_of_mem hu; omega))
      have sL := sumP_one (qcc d) (l := p.l) (by omega) (B := 59049) (by omega) (fun u hu => hrng u (pL u hu))
      have sR := sumP_one (qcc d) (l := p.r) (by omega) (B := 59049) (by omega) (fun u hu => hrng u (pR u hu))
      have sC := sumP_one (qcc d) (l := p.c) hc1 (B := 59049) (by omega) (fun u hu => hrng u (pC u hu))
      have tL := sL p.l.length
      have tR := sR p.r.length
      rw [List.take_length] at tL tR
      refine qF Tryz.func102 E Tryz.ntmps102 zL fun c hL hQ hDD => (qd (qb (qy E E zD (qaa 1 E E E) E (zX E (zK (qd ?_)))))); refine qd (qb (zA E (qe E qao E) (zA E (ql E qU E E E E E) (zA E (qj E E E E) (zK (qq E (fun c0 => ?_) (fun c0 => ?_)))))))
      · try simp only[↓cqA,cqB]at c0
        omega
      try simp only[↓cqA,cqB]at c0
      refine qr (qa (qd (qb (zX E (zK (qcN ⟨[(1, .ptr 1 0), (3, iv (sumP (qcc d) p.l))], [(1, .box (lift false (ptD p)))]⟩ ?_ ?_))))))
      · refine qd (qb (zX E (zK (qv (q6 (p.l.length) (fun k => k ≤ p.l.length) (fun k => ⟨[(1, .ptr 1 0), (3, iv (0 + sumP (qcc d) (p.l.take k))), (4, iv (k : Int))], [(1, .box (lift false (ptD p)))]⟩) (by omega) ?_ (fun k hk hp => ?_))))))
        · exact zR hL (zC E (SubT.cons (qan E (by exact qL (by simp [sumP]))) (zC rfl SubT.nil))) (SubO.cons (qR rfl (by rfl)) SubO.nil)
        have hsr := sL k
        refine qd (qd (qb (zX E (zA E (qe E qaQ E) (zA E (ql E qM E E E E E) (zA E (qu E qG E) (zA E (qj E E E E) ?_))))))); refine zK (qq E (fun c1 => ?_) (fun c1 => ?_))
        · try simp only[↓cqA,cqB]at c1
          obtain ⟨u, hu⟩ := qH (l := p.l) (k := k) (by omega)
          have hum := List.mem_of_getElem? hu
          have hsn := sumP_snoc (qcc d) hu
          have hsr2 := sL (k + 1)
          have hpb := pL u hum
          refine qr (qa (qd (qv (qb (zX E (zA E (qe E qaQ E) (zA E (ql E qM E E E E E) ?_))))))); refine zX E (zA E (qp E qG E E (by omega) (qbN hu)) (zA E (qC E qad E E) (qE (avs := [_]) true E E E zD qcu E E (ih u (Pt.wfs_iff.1 hwL u hum) hpb) E E (zA E (qJ E E E (by omega)) (zX E (qc (qP (qa (qb ?_)))))))))
          refine zX E (zA E (qJ E E E (by omega)) (zX E (zK ?_))); refine ⟨?_, ?_, ?_⟩
          · omega
          · omega
          exact zR hL (zC E (SubT.cons (qan E (by exact qL (by rw [hsn]; omega))) (zC E SubT.nil))) (SubO.cons (qR E (by rfl)) SubO.nil)
        try simp only[↓cqA,cqB]at c1
        refine qQ (qn (qn (qX ?_)))
        exact qai (qB (zC E (SubT.cons (qan E (by exact qL (by rw [List.take_of_length_le (by omega), Int.zero_add]))) SubT.nil)) (SubO.cons (qR E (by rfl)) SubO.nil) E E (noL' (noL hL) _))
      refine qcN ⟨[(1, .ptr 1 0), (3, iv (sumP (qcc d) p.l + sumP (qcc d) p.r))], [(1, .box (lift false (ptD p)))]⟩ ?_ ?_
      · refine qd (qb (zX E (zK (qv (q6 (p.r.length) (fun k => k ≤ p.r.length) (fun k => ⟨[(1, .ptr 1 0), (3, iv (sumP (qcc d) p.l + sumP (qcc d) (p.r.take k))), (5, iv (k : Int))], [(1, .box (lift false (ptD p)))]⟩) (by omega) ?_ (fun k hk hp => ?_))))))
        · exact zR hL (zC E (SubT.cons (qan E (by exact qL (by simp [sumP]))) (zC rfl SubT.nil))) (SubO.cons (qR rfl (by rfl)) SubO.nil)
        have hsr := sR k
        refine qd (qd (qb (zX E (zA E (qe E qaP E) (zA E (ql E qM E E E E E) (zA E (qu E qG E) (zA E (qj E E E E) ?_))))))); refine zK (qq E (fun c2 => ?_) (fun c2 => ?_))
        · try simp only[↓cqA,cqB]at c2
          obtain ⟨u, hu⟩ := qH (l := p.r) (k := k) (by omega)
          have hum := List.mem_of_getElem? hu
          have hsn := sumP_snoc (qcc d) hu
          have hsr2 := sR (k + 1)
          have hpb := pR u hum
          refine qr (qa (qd (qv (qb (zX E (zA E (qe E qaP E) (zA E (ql E qM E E E E E) ?_))))))); refine zX E (zA E (qp E qG E E (by omega) (qbN hu)) (zA E (qC E qad E E) (qE (avs := [_]) true E E E zD qcu E E (ih u (Pt.wfs_iff.1 hwR u hum) hpb) E E (zA E (qJ E E E (by omega)) (zX E (qc (qP (qa (qb ?_)))))))))
          refine zX E (zA E (qJ E E E (by omega)) (zX E (zK ?_))); refine ⟨?_, ?_, ?_⟩
          · omega
          · omega
          exact zR hL (zC E (SubT.cons (qan E (by exact qL (by rw [hsn]; omega))) (zC E SubT.nil))) (SubO.cons (qR E (by rfl)) SubO.nil)
        try simp only[↓cqA,cqB]at c2
        refine qQ (qn (qn (qX ?_)))
        exact qai (qB (zC E (SubT.cons (qan E (by exact qL (by rw [List.take_of_length_le (by omega)]))) SubT.nil)) (SubO.cons (qR E (by rfl)) SubO.nil) E E (noL' (noL hL) _))
      refine qd (qd (qb (zX E (zK (qv (q6 (p.c.length) (fun k => k ≤ p.c.length) (fun k => ⟨[(1, .ptr 1 0), (3, iv (sumP (qcc d) p.l + sumP (qcc d) p.r + sumP (qcc d) (p.c.take k))), (6, iv (k : Int))], [(1, .box (lift false (ptD p)))]⟩) (by omega) ?_ (fun k hk hp => ?_)))))))
      · exact zR hL (zC E (SubT.cons (qan E (by exact qL (by simp [sumP]))) (zC rfl SubT.nil))) (SubO.cons (qR rfl (by rfl)) SubO.nil)
      have hsr := sC k
      refine qd (qd (qb (zX E (zA E (qe E qaK E) (zA E (ql E qM E E E E E) (zA E (qu E qG E) (zA E (qj E E E E) ?_))))))); refine zK (qq E (fun c3 => ?_) (fun c3 => ?_))
      · try simp only[↓cqA,cqB]at c3
        obtain ⟨u, hu⟩ := qH (l := p.c) (k := k) (by omega)
        have hum := List.mem_of_getElem? hu
        have hsn := sumP_snoc (qcc d) hu
        have hsr2 := sC (k + 1)
        have hpb := pC u hum
        refine qr (qa (qd (qv (qb (zX E (zA E (qe E qaK E) (zA E (ql E qM E E E E E) ?_))))))); refine zX E (zA E (qp E qG E E (by omega) (qbN hu)) (zA E (qC E qad E E) (qE (avs := [_]) true E E E zD qcu E E (ih u (Pt.wfs_iff.1 hwC u hum) hpb) E E (zA E (qJ E E E (by omega)) (zX E (qc (qP (qa (qb ?_)))))))))
        refine zX E (zA E (qJ E E E (by omega)) (zX E (zK ?_))); refine ⟨?_, ?_, ?_⟩
        · omega
        · omega
        exact zR hL (zC E (SubT.cons (qan E (by exact qL (by rw [hsn]; omega))) (zC E SubT.nil))) (SubO.cons (qR E (by rfl)) SubO.nil)
      try simp only[↓cqA,cqB]at c3
      refine qQ (qn (qn (qX ?_))); refine qa (qd (qb (zX E (zX E (zK (qo (zI hL (qh E qi) ?_ ?_)))))))
      · rfl
      exact ⟨qa2 (by rw [List.take_of_length_le (by omega), qcc, if_neg hk1, sumP_app, sumP_app]), rfl⟩
theorem eqNone_ok (t : Tm) (hd : dle 30 t) (hw : t.wf) : PF 100 [tmA false t, .agg [iv 0, sv ⟨#[]⟩, iv 0, .imm (.slice none 0 0)]] (bv (qbD t)) := by
 have e3 : eqT 30 t zeroTm = qbD t := by
  rw [Bool.eq_iff_iff, eqT_iff 30 _ _ hd, none_iff]
 have key := AC_le (.cons .refl (.cons (zero_le false) .nil)) (EqTerm_ok 30 t zeroTm hd hw zeroTm_wf)
 rw [e3] at key
 exact key
theorem patS : (∀ a b : Bool, ((a && b) = true) = (a = true ∧ b = true)) ∧ (∀ a b : Bool, ((a || b) = true) = (a = true ∨ b = true)) ∧ (∀ (p : Prop) [Decidable p], (decide p = true) = p) ∧ (∀ a b : Int, ((a == b) = true) = (a = b)) ∧ (∀ a b : Nat, ((a == b) = true) = (a = b)) ∧ (∀ a b : Bool, ((a == b) = true) = (a = b)) ∧ ((false = true) = False) ∧ ((true = true) = True) ∧ (∀ p, (p ∧ True) = p) ∧ (∀ p, (True ∧ p) = p) ∧ (∀ p, (p ∧ False) = False) ∧ (∀ p, (False ∧ p) = False) ∧ (∀ p, (p ∨ True) = True) ∧ (∀ p, (True ∨ p) = True) ∧ (∀ p, (p ∨ False) = p) ∧ (∀ p, (False ∨ p) = p) ∧ (∀ p, (p ↔ True) = p) ∧ (∀ p, (True ↔ p) = p) ∧ (∀ p, (p ↔ False) = ¬ p) ∧ (∀ p, (False ↔ p) = ¬ p) ∧ ((¬ False) = True) ∧ ((¬ True) = False) := by
 refine ⟨?_, ?_, ?_, ?_, ?_, ?_, ?_, ?_, ?_, ?_, ?_, ?_, ?_, ?_, ?_, ?_, ?_, ?_, ?_, ?_, ?_, ?_⟩ <;> simp
theorem rpattern_ok : ∀ (d : Nat), d ≤ 8 → ∀ (e : Int), e = d → ∀ (D : Nat) (p : Pt), p.wf → dlP D p → PF 101 [ptA false p, iv e] (bv (patB d p))
  | 0, _ => fun e he D p hp hd => by
    refine qF Tryz.func101 E Tryz.ntmps101 zL fun c hL hQ hDD => (qd (qb (qy E E zD (qaa 2 E E E) E (zX E (zK (qd ?_)))))); refine qd (qb (zX E (zA E (qj E E E E) (zX E (qt 7 E (fun g7 => ?_) (fun g7 => ?_))))))
    · try simp only[↓cqA,cqB]at g7
      refine zY E (zY E (zY E (zY E (zA E (qg E E E) (zX E (zY E (zY E (zY E (zY E (zA E (qg E E E) (zX E ?_)))))))))))
      refine zY E (zY E (zY E (zY E (zA E (qg E E E) (zK (qaN E ?_)))))); refine qd (qb (zX E (zK (qo (qm (zI hL (qh E qi) ?_ ?_))))))
      · rfl
      exact ⟨qT (by rw [patB]), rfl⟩
    try simp only[↓cqA,cqB]at g7
    omega
  | d + 1, hd8 => fun e he D p hp hd => by
    obtain ⟨D, rfl⟩ : ∃ q, D = q + 1 := by
      cases D with
      | zero => exact hd.elim
      | succ D => exact ⟨D, rfl⟩
    obtain ⟨hdt, hdL, hdR, hdC⟩ := hd
    have ih := rpattern_ok d (by omega)
    have htw := hp.2.1
    have hdl := qaW p.l
    have hdr := qaW p.r
    have hdc := qaW p.c
    have hwl := hdP_wf hp.2.2.2.1.2
    have hwr := hdP_wf hp.2.2.2.2.1.2
    have hwc := hdP_wf hp.2.2.2.2.2.2
    have hhd : ∀ {l : List Pt}, l.length ≠ 0 → hdP l ∈ l := fun {l} h => List.mem_of_getElem? (qdJ h)
    refine qF Tryz.func101 E Tryz.ntmps101 zL fun c hL hQ hDD => (qd (qb (qy E E zD (qaa 2 E E E) E (zX E (zK (qd ?_)))))); refine qd (qb (zX E (zA E (qj E E E E) (zX E (qt 7 E (fun g7 => ?_) (fun g7 => ?_))))))
    · try simp only[↓cqA,cqB]at g7
      omega
    try simp only[↓cqA,cqB]at g7
    refine zZ E (qe E qaQ E) (zZ E (ql E qM E E E E E) (zZ E (qu E qG E) (zZ E (qj E E E E) (zA E (qg E E E) (zX E (qt 13 E (fun g13 => ?_) (fun g13 => ?_)))))))
    · try simp only[↓cqA,cqB]at g13
      refine zY E (zY E (zY E (zY E (zA E (qg E E E) (zX E ?_)))))
      refine zY E (zY E (zY E (zY E (zA E (qg E E E) (zK (qaN E ?_)))))); refine qd (qb (zX E (zK (qo (qm (zI hL (qh E qi) ?_ ?_))))))
      · rfl
      refine ⟨qT ?_, rfl⟩
      rw [patB, qcQ]
      clear ih hwl hwr hwc hdL hdR hdC hhd hp htw hdt
      simp only [hdl, hdr, hdc] at *
      generalize p.l.length = L at *
      generalize p.r.length = R at *
      generalize p.c.length = C at *
      generalize patB d (hdP p.l) = b1 at *
      generalize patB d (hdP p.r) = b2 at *
      generalize patB d (hdP p.c) = b3 at *
      generalize qbD p.t = b4 at *
      generalize mayT p.t = b5 at *
      generalize p.t.kind = tk at *
      generalize p.rel = q at *
      generalize p.kind = k at *
      clear hdl hdr hdc
      rw [Bool.eq_iff_iff]
      by_cases hh : L ≤ 1 ∧ R ≤ 1 ∧ C ≤ 1
      · rw [if_pos hh]
        by_cases hk : k = 1
        · rw [if_pos hk]
          cases b5 <;> first | (simp_all; done) | (simp_all; omega)
        · rw [if_neg hk]
          try rw [Bool.eq_iff_iff] at c2
          try simp only [beq_iff_eq, decide_eq_true_eq] at c2
          try rw [Bool.eq_iff_iff] at g100
          try simp only [beq_iff_eq, decide_eq_true_eq] at g100
          cases b1 <;> cases b2 <;> cases b3 <;> cases b4 <;> first | contradiction | (exfalso; omega) | (simp only [patS] <;> omega)
      · first | (rw [if_neg hh]; done) | (exfalso; omega) | (rw [if_neg hh]; simp; done)
    try simp only[↓cqA,cqB]at g13
    refine zZ E (qe E qaP E) (zZ E (ql E qM E E E E E) (zZ E (qu E qG E) (zZ E (qj E E E E) (zA E (qg E E E) (zX E (qt 19 E (fun g19 => ?_) (fun g19 => ?_)))))))
    · try simp only[↓cqA,cqB]at g19
      refine zY E (zY E (zY E (zY E (zA E (qg E E E) (zK (qaN E ?_)))))); refine qd (qb (zX E (zK (qo (qm (zI hL (qh E qi) ?_ ?_))))))
      · rfl
      refine ⟨qT ?_, rfl⟩
      rw [patB, qcQ]
      clear ih hwl hwr hwc hdL hdR hdC hhd hp htw hdt
      simp only [hdl, hdr, hdc] at *
      generalize p.l.length = L at *
      generalize p.r.length = R at *
      generalize p.c.length = C at *
      generalize patB d (hdP p.l) = b1 at *
      generalize patB d (hdP p.r) = b2 at *
      generalize patB d (hdP p.c) = b3 at *
      generalize qbD p.t = b4 at *
      generalize mayT p.t = b5 at *
      generalize p.t.kind = tk at *
      generalize p.rel = q at *
      generalize p.kind = k at *
      clear hdl hdr hdc
      rw [Bool.eq_iff_iff]
      by_cases hh : L ≤ 1 ∧ R ≤ 1 ∧ C ≤ 1
      · rw [if_pos hh]
        by_cases hk : k = 1
        · rw [if_pos hk]
          cases b5 <;> first | (simp_all; done) | (simp_all; omega)
        · rw [if_neg hk]
          try rw [Bool.eq_iff_iff] at c2
          try simp only [beq_iff_eq, decide_eq_true_eq] at c2
          try rw [Bool.eq_iff_iff] at g100
          try simp only [beq_iff_eq, decide_eq_true_eq] at g100
          cases b1 <;> cases b2 <;> cases b3 <;> cases b4 <;> first | contradiction | (exfalso; omega) | (simp only [patS] <;> omega)
      · first | (rw [if_neg hh]; done) | (exfalso; omega) | (rw [if_neg hh]; simp; done)
    try simp only[↓cqA,cqB]at g19
    refine zZ E (qe E qaK E) (zZ E (ql E qM E E E E E) (zZ E (qu E qG E) (zZ E (qj E E E E) (zA E (qg E E E) (zK (qq E (fun c0 => ?_) (fun c0 => ?_)))))))
    · try simp only[↓cqA,cqB]at c0
      refine qd (qb (zX E (zK (qo (qm (zI hL (qh E qi) ?_ ?_))))))
      · rfl
      refine ⟨qT ?_, rfl⟩
      rw [patB, qcQ]
      clear ih hwl hwr hwc hdL hdR hdC hhd hp htw hdt
      simp only [hdl, hdr, hdc] at *
      generalize p.l.length = L at *
      generalize p.r.length = R at *
      generalize p.c.length = C at *
      generalize patB d (hdP p.l) = b1 at *
      generalize patB d (hdP p.r) = b2 at *
      generalize patB d (hdP p.c) = b3 at *
      generalize qbD p.t = b4 at *
      generalize mayT p.t = b5 at *
      generalize p.t.kind = tk at *
      generalize p.rel = q at *
      generalize p.kind = k at *
      clear hdl hdr hdc
      rw [Bool.eq_iff_iff]
      by_cases hh : L ≤ 1 ∧ R ≤ 1 ∧ C ≤ 1
      · rw [if_pos hh]
        by_cases hk : k = 1
        · rw [if_pos hk]
          cases b5 <;> first | (simp_all; done) | (simp_all; omega)
        · rw [if_neg hk]
          try rw [Bool.eq_iff_iff] at c2
          try simp only [beq_iff_eq, decide_eq_true_eq] at c2
          try rw [Bool.eq_iff_iff] at g100
          try simp only [beq_iff_eq, decide_eq_true_eq] at g100
          cases b1 <;> cases b2 <;> cases b3 <;> cases b4 <;> first | contradiction | (exfalso; omega) | (simp only [patS] <;> omega)
      · first | (rw [if_neg hh]; done) | (exfalso; omega) | (rw [if_neg hh]; simp; done)
    try simp only[↓cqA,cqB]at c0
    refine qr (qa (qd (qd (qb (zA E (qe E qao E) (zA E (ql E qU E E E E E) (zA E (qj E E E E) ?_))))))); refine zK (qq E (fun c1 => ?_) (fun c1 => ?_))
    · try simp only[↓cqA,cqB]at c1
      refine qd (qb (zA E (qe E qbo E) (zA E (qe E qar E) (zA E (ql E qU E E E E E) (zA E (qj E E E E) (zX E (qt 32 E (fun g32 => ?_) (fun g32 => ?_))))))))
      · try simp only[↓cqA,cqB]at g32
        refine zZ E (qe E qbo E) (zZ E (ql E qw E E E E E) (zZ E (qY (avs := [_]) true E qbC E E (rTerm_ok p.t htw) (fun _ => rfl) E) (zA E (qg E E E) (zX E (qt 37 E (fun g37 => ?_) (fun g37 => ?_))))))
        · try simp only[↓cqA,cqB]at g37
          refine zZ E (qe E qa7 E) (zZ E (ql E qU E E E E E) (zZ E (qj E E E E) (zA E (qg E E E) (zX E (qt 42 E (fun g42 => ?_) (fun g42 => ?_))))))
          · try simp only[↓cqA,cqB]at g42
            refine zZ E (qe E qaQ E) (zZ E (ql E qM E E E E E) (zZ E (qu E qG E) (zZ E (qj E E E E) (zA E (qg E E E) (zX E (qt 48 E (fun g48 => ?_) (fun g48 => ?_)))))))
            · try simp only[↓cqA,cqB]at g48
              refine zZ E (qe E qaP E) (zZ E (ql E qM E E E E E) (zZ E (qu E qG E) (zZ E (qj E E E E) (zA E (qg E E E) (zX E (qt 54 E (fun g54 => ?_) (fun g54 => ?_)))))))
              · try simp only[↓cqA,cqB]at g54
                refine zZ E (qe E qaK E) (zZ E (ql E qM E E E E E) (zZ E (qu E qG E) (zZ E (qj E E E E) (zA E (qg E E E) (zX E (zK (qo (qm (zI hL (qh E qi) ?_ ?_)))))))))
                · rfl
                refine ⟨qT ?_, rfl⟩
                rw [patB, qcQ]
                clear ih hwl hwr hwc hdL hdR hdC hhd hp htw hdt
                simp only [hdl, hdr, hdc] at *
                generalize p.l.length = L at *
                generalize p.r.length = R at *
                generalize p.c.length = C at *
                generalize patB d (hdP p.l) = b1 at *
                generalize patB d (hdP p.r) = b2 at *
                generalize patB d (hdP p.c) = b3 at *
                generalize qbD p.t = b4 at *
                generalize mayT p.t = b5 at *
                generalize p.t.kind = tk at *
                generalize p.rel = q at *
                generalize p.kind = k at *
                clear hdl hdr hdc
                rw [Bool.eq_iff_iff]
                by_cases hh : L ≤ 1 ∧ R ≤ 1 ∧ C ≤ 1
                · rw [if_pos hh]
                  by_cases hk : k = 1
                  · rw [if_pos hk]
                    cases b5 <;> first | (simp_all; done) | (simp_all; omega)
                  · rw [if_neg hk]
                    try rw [Bool.eq_iff_iff] at c2
                    try simp only [beq_iff_eq, decide_eq_true_eq] at c2
                    try rw [Bool.eq_iff_iff] at g100
                    try simp only [beq_iff_eq, decide_eq_true_eq] at g100
                    cases b1 <;> cases b2 <;> cases b3 <;> cases b4 <;> first | contradiction | (exfalso; omega) | (simp only [patS] <;> omega)
                · first | (rw [if_neg hh]; done) | (exfalso; omega) | (rw [if_neg hh]; simp; done)
              try simp only[↓cqA,cqB]at g54
              refine zY E (zY E (zY E (zY E (zA E (qg E E E) (zX E (zK ?_)))))); refine qo (qm (zI hL (qh E qi) ?_ ?_))
              · rfl
              refine ⟨qT ?_, rfl⟩
              rw [patB, qcQ]
              clear ih hwl hwr hwc hdL hdR hdC hhd hp htw hdt
              simp only [hdl, hdr, hdc] at *
              generalize p.l.length = L at *
              generalize p.r.length = R at *
              generalize p.c.length = C at *
              generalize patB d (hdP p.l) = b1 at *
              generalize patB d (hdP p.r) = b2 at *
              generalize patB d (hdP p.c) = b3 at *
              generalize qbD p.t = b4 at *
              generalize mayT p.t = b5 at *
              generalize p.t.kind = tk at *
              generalize p.rel = q at *
              generalize p.kind = k at *
              clear hdl hdr hdc
              rw [Bool.eq_iff_iff]
              by_cases hh : L ≤ 1 ∧ R ≤ 1 ∧ C ≤ 1
              · rw [if_pos hh]
                by_cases hk : k = 1
                · rw [if_pos hk]
                  cases b5 <;> first | (simp_all; done) | (simp_all; omega)
                · rw [if_neg hk]
                  try rw [Bool.eq_iff_iff] at c2
                  try simp only [beq_iff_eq, decide_eq_true_eq] at c2
                  try rw [Bool.eq_iff_iff] at g100
                  try simp only [beq_iff_eq, decide_eq_true_eq] at g100
                  cases b1 <;> cases b2 <;> cases b3 <;> cases b4 <;> first | contradiction | (exfalso; omega) | (simp only [patS] <;> omega)
              · first | (rw [if_neg hh]; done) | (exfalso; omega) | (rw [if_neg hh]; simp; done)
            try simp only[↓cqA,cqB]at g48
            refine zY E (zY E (zY E (zY E (zA E (qg E E E) ?_))))
            refine zX E (zY E (zY E (zY E (zY E (zA E (qg E E E) (zX E (qc ?_))))))); refine qa (qo (qm (zI hL (qh E qi) ?_ ?_)))
            · rfl
            refine ⟨qT ?_, rfl⟩
            rw [patB, qcQ]
            clear ih hwl hwr hwc hdL hdR hdC hhd hp htw hdt
            simp only [hdl, hdr, hdc] at *
            generalize p.l.length = L at *
            generalize p.r.length = R at *
            generalize p.c.length = C at *
            generalize patB d (hdP p.l) = b1 at *
            generalize patB d (hdP p.r) = b2 at *
            generalize patB d (hdP p.c) = b3 at *
            generalize qbD p.t = b4 at *
            generalize mayT p.t = b5 at *
            generalize p.t.kind = tk at *
            generalize p.rel = q at *
            generalize p.kind = k at *
            clear hdl hdr hdc
            rw [Bool.eq_iff_iff]
            by_cases hh : L ≤ 1 ∧ R ≤ 1 ∧ C ≤ 1
            · rw [if_pos hh]
              by_cases hk : k = 1
              · rw [if_pos hk]
                cases b5 <;> first | (simp_all; done) | (simp_all; omega)
              · rw [if_neg hk]
                try rw [Bool.eq_iff_iff] at c2
                try simp only [beq_iff_eq, decide_eq_true_eq] at c2
                try rw [Bool.eq_iff_iff] at g100
                try simp only [beq_iff_eq, decide_eq_true_eq] at g100
                cases b1 <;> cases b2 <;> cases b3 <;> cases b4 <;> first | contradiction | (exfalso; omega) | (simp only [patS] <;> omega)
            · first | (rw [if_neg hh]; done) | (exfalso; omega) | (rw [if_neg hh]; simp; done)
          try simp only[↓cqA,cqB]at g42
          refine zY E (zY E (zY E (zY E (zA E (qg E E E) (zX E (zY E (zY E (zY E (zY E (zA E (qg E E E) (zX E ?_)))))))))))
          refine zY E (zY E (zY E (zY E (zA E (qg E E E) (zX E (zK ?_)))))); refine qo (qm (zI hL (qh E qi) ?_ ?_))
          · rfl
          refine ⟨qT ?_, rfl⟩
          rw [patB, qcQ]
          clear ih hwl hwr hwc hdL hdR hdC hhd hp htw hdt
          simp only [hdl, hdr, hdc] at *
          generalize p.l.length = L at *
          generalize p.r.length = R at *
          generalize p.c.length = C at *
          generalize patB d (hdP p.l) = b1 at *
          generalize patB d (hdP p.r) = b2 at *
          generalize patB d (hdP p.c) = b3 at *
          generalize qbD p.t = b4 at *
          generalize mayT p.t = b5 at *
          generalize p.t.kind = tk at *
          generalize p.rel = q at *
          generalize p.kind = k at *
          clear hdl hdr hdc
          rw [Bool.eq_iff_iff]
          by_cases hh : L ≤ 1 ∧ R ≤ 1 ∧ C ≤ 1
          · rw [if_pos hh]
            by_cases hk : k = 1
            · rw [if_pos hk]
              cases b5 <;> first | (simp_all; done) | (simp_all; omega)
            · rw [if_neg hk]
              try rw [Bool.eq_iff_iff] at c2
              try simp only [beq_iff_eq, decide_eq_true_eq] at c2
              try rw [Bool.eq_iff_iff] at g100
              try simp only [beq_iff_eq, decide_eq_true_eq] at g100
              cases b1 <;> cases b2 <;> cases b3 <;> cases b4 <;> first | contradiction | (exfalso; omega) | (simp only [patS] <;> omega)
          · first | (rw [if_neg hh]; done) | (exfalso; omega) | (rw [if_neg hh]; simp; done)
        try simp only[↓cqA,cqB]at g37
        refine zY E (zY E (zY E (zA E (qg E E E) (zX E (zY E (zY E (zY E (zY E (zA E (qg E E E) (zX E (zY E (zY E (zY E (zY E (zA E (qg E E E) (zX E (zY E ?_)))))))))))))))))
        refine zY E (zY E (zY E (zA E (qg E E E) (zX E (zK (qo ?_)))))); refine qm (zI hL (qh E qi) ?_ ?_)
        · rfl
        refine ⟨qT ?_, rfl⟩
        rw [patB, qcQ]
        clear ih hwl hwr hwc hdL hdR hdC hhd hp htw hdt
        simp only [hdl, hdr, hdc] at *
        generalize p.l.length = L at *
        generalize p.r.length = R at *
        generalize p.c.length = C at *
        generalize patB d (hdP p.l) = b1 at *
        generalize patB d (hdP p.r) = b2 at *
        generalize patB d (hdP p.c) = b3 at *
        generalize qbD p.t = b4 at *
        generalize mayT p.t = b5 at *
        generalize p.t.kind = tk at *
        generalize p.rel = q at *
        generalize p.kind = k at *
        clear hdl hdr hdc
        rw [Bool.eq_iff_iff]
        by_cases hh : L ≤ 1 ∧ R ≤ 1 ∧ C ≤ 1
        · rw [if_pos hh]
          by_cases hk : k = 1
          · rw [if_pos hk]
            cases b5 <;> first | (simp_all; done) | (simp_all; omega)
          · rw [if_neg hk]
            try rw [Bool.eq_iff_iff] at c2
            try simp only [beq_iff_eq, decide_eq_true_eq] at c2
            try rw [Bool.eq_iff_iff] at g100
            try simp only [beq_iff_eq, decide_eq_true_eq] at g100
            cases b1 <;> cases b2 <;> cases b3 <;> cases b4 <;> first | contradiction | (exfalso; omega) | (simp only [patS] <;> omega)
        · first | (rw [if_neg hh]; done) | (exfalso; omega) | (rw [if_neg hh]; simp; done)
      try simp only[↓cqA,cqB]at g32
      refine zY E (zY E (zY E (zA E (qg E E E) (zX E (zY E (zY E (zY E (zA E (qg E E E) (zX E (zY E (zY E (zY E (zY E (zA E (qg E E E) (zX E (zY E (zY E (zY E (zY E (zA E (qg E E E) (zX E (zY E (zY E ?_)))))))))))))))))))))))
      refine zY E (zY E (zA E (qg E E E) (zX E (zK (qo (qm (zI hL (qh E qi) ?_ ?_)))))))
      · rfl
      refine ⟨qT ?_, rfl⟩
      rw [patB, qcQ]
      clear ih hwl hwr hwc hdL hdR hdC hhd hp htw hdt
      simp only [hdl, hdr, hdc] at *
      generalize p.l.length = L at *
      generalize p.r.length = R at *
      generalize p.c.length = C at *
      generalize patB d (hdP p.l) = b1 at *
      generalize patB d (hdP p.r) = b2 at *
      generalize patB d (hdP p.c) = b3 at *
      generalize qbD p.t = b4 at *
      generalize mayT p.t = b5 at *
      generalize p.t.kind = tk at *
      generalize p.rel = q at *
      generalize p.kind = k at *
      clear hdl hdr hdc
      rw [Bool.eq_iff_iff]
      by_cases hh : L ≤ 1 ∧ R ≤ 1 ∧ C ≤ 1
      · rw [if_pos hh]
        by_cases hk : k = 1
        · rw [if_pos hk]
          cases b5 <;> first | (simp_all; done) | (simp_all; omega)
        · rw [if_neg hk]
          try rw [Bool.eq_iff_iff] at c2
          try simp only [beq_iff_eq, decide_eq_true_eq] at c2
          try rw [Bool.eq_iff_iff] at g100
          try simp only [beq_iff_eq, decide_eq_true_eq] at g100
          cases b1 <;> cases b2 <;> cases b3 <;> cases b4 <;> first | contradiction | (exfalso; omega) | (simp only [patS] <;> omega)
      · first | (rw [if_neg hh]; done) | (exfalso; omega) | (rw [if_neg hh]; simp; done)
    try simp only[↓cqA,cqB]at c1
    refine qr (qa (qd (qd (qb (zA E (qe E qao E) (zA E (ql E qU E E E E E) (qE (avs := [_, _, _]) true E E E zD qbB E E (Between_ok p.kind 2 6) E E ?_))))))); refine zA E (qal E E) (zX E (qt 64 E (fun g64 => ?_) (fun g64 => ?_)))
    · try simp only[↓cqA,cqB]at g64
      refine zY E (zY E (zY E (zY E (zY E (zA E (qg E E E) (zX E (zY E (zY E (zY E (zY E (zA E (qg E E E) (zX E (zY E (zY E (zY E (zY E (zA E (qg E E E) (zX E (zY E (zY E (zY E (zY E (zY E ?_)))))))))))))))))))))))
      refine zY E (zY E (zY E (zA E (qg E E E) (zK (qaN E (qd ?_)))))); refine qb (zX E (zK (qo (qm (zI hL (qh E qi) ?_ ?_)))))
      · rfl
      refine ⟨qT ?_, rfl⟩
      rw [patB, qcQ]
      clear ih hwl hwr hwc hdL hdR hdC hhd hp htw hdt
      simp only [hdl, hdr, hdc] at *
      generalize p.l.length = L at *
      generalize p.r.length = R at *
      generalize p.c.length = C at *
      generalize patB d (hdP p.l) = b1 at *
      generalize patB d (hdP p.r) = b2 at *
      generalize patB d (hdP p.c) = b3 at *
      generalize qbD p.t = b4 at *
      generalize mayT p.t = b5 at *
      generalize p.t.kind = tk at *
      generalize p.rel = q at *
      generalize p.kind = k at *
      clear hdl hdr hdc
      rw [Bool.eq_iff_iff]
      by_cases hh : L ≤ 1 ∧ R ≤ 1 ∧ C ≤ 1
      · rw [if_pos hh]
        by_cases hk : k = 1
        · rw [if_pos hk]
          cases b5 <;> first | (simp_all; done) | (simp_all; omega)
        · rw [if_neg hk]
          try rw [Bool.eq_iff_iff] at c2
          try simp only [beq_iff_eq, decide_eq_true_eq] at c2
          try rw [Bool.eq_iff_iff] at g100
          try simp only [beq_iff_eq, decide_eq_true_eq] at g100
          cases b1 <;> cases b2 <;> cases b3 <;> cases b4 <;> first | contradiction | (exfalso; omega) | (simp only [patS] <;> omega)
      · first | (rw [if_neg hh]; done) | (exfalso; omega) | (rw [if_neg hh]; simp; done)
    try simp only[↓cqA,cqB]at g64
    refine zZ E (qe E qbo E) (zZ E (ql E qw E E E E E) (zZ E (qa1 E qaw E qdI E E) (zZ E (qY (avs := [_, _]) true E qbh E E (eqNone_ok p.t hdt htw) (fun _ => rfl) E) (zZ E (qal E E) (zA E (qg E E E) (zX E (qt 71 E (fun g71 => ?_) (fun g71 => ?_))))))))
    · try simp only[↓cqA,cqB]at g71
      refine zY E (zY E (zY E (zY E (zA E (qg E E E) (zX E (zY E (zY E (zY E (zY E (zA E (qg E E E) (zX E (zY E (zY E (zY E (zY E (zY E (zY E ?_)))))))))))))))))
      refine zY E (zY E (zA E (qg E E E) (zK (qaN E (qd (qb ?_)))))); refine zX E (zK (qo (qm (zI hL (qh E qi) ?_ ?_))))
      · rfl
      refine ⟨qT ?_, rfl⟩
      rw [patB, qcQ]
      clear ih hwl hwr hwc hdL hdR hdC hhd hp htw hdt
      simp only [hdl, hdr, hdc] at *
      generalize p.l.length = L at *
      generalize p.r.length = R at *
      generalize p.c.length = C at *
      generalize patB d (hdP p.l) = b1 at *
      generalize patB d (hdP p.r) = b2 at *
      generalize patB d (hdP p.c) = b3 at *
      generalize qbD p.t = b4 at *
      generalize mayT p.t = b5 at *
      generalize p.t.kind = tk at *
      generalize p.rel = q at *
      generalize p.kind = k at *
      clear hdl hdr hdc
      rw [Bool.eq_iff_iff]
      by_cases hh : L ≤ 1 ∧ R ≤ 1 ∧ C ≤ 1
      · rw [if_pos hh]
        by_cases hk : k = 1
        · rw [if_pos hk]
          cases b5 <;> first | (simp_all; done) | (simp_all; omega)
        · rw [if_neg hk]
          try rw [Bool.eq_iff_iff] at c2
          try simp only [beq_iff_eq, decide_eq_true_eq] at c2
          try rw [Bool.eq_iff_iff] at g100
          try simp only [beq_iff_eq, decide_eq_true_eq] at g100
          cases b1 <;> cases b2 <;> cases b3 <;> cases b4 <;> first | contradiction | (exfalso; omega) | (simp only [patS] <;> omega)
      · first | (rw [if_neg hh]; done) | (exfalso; omega) | (rw [if_neg hh]; simp; done)
    try simp only[↓cqA,cqB]at g71
    refine zZ E (qe E qaQ E) (zZ E (ql E qM E E E E E) (zZ E (qu E qG E) (zZ E (qj E E E E) (zA E (qg E E E) (zX E (qt 77 E (fun g77 => ?_) (fun g77 => ?_)))))))
    · try simp only[↓cqA,cqB]at g77
      refine zY E (zY E (zY E (zY E (zA E (qg E E E) (zX E (zY E (zY E (zY E (zY E (zY E (zY E ?_)))))))))))
      refine zY E (zY E (zA E (qg E E E) (zK (qaN E (qd (qb ?_)))))); refine zX E (zK (qo (qm (zI hL (qh E qi) ?_ ?_))))
      · rfl
      refine ⟨qT ?_, rfl⟩
      rw [patB, qcQ]
      clear ih hwl hwr hwc hdL hdR hdC hhd hp htw hdt
      simp only [hdl, hdr, hdc] at *
      generalize p.l.length = L at *
      generalize p.r.length = R at *
      generalize p.c.length = C at *
      generalize patB d (hdP p.l) = b1 at *
      generalize patB d (hdP p.r) = b2 at *
      generalize patB d (hdP p.c) = b3 at *
      generalize qbD p.t = b4 at *
      generalize mayT p.t = b5 at *
      generalize p.t.kind = tk at *
      generalize p.rel = q at *
      generalize p.kind = k at *
      clear hdl hdr hdc
      rw [Bool.eq_iff_iff]
      by_cases hh : L ≤ 1 ∧ R ≤ 1 ∧ C ≤ 1
      · rw [if_pos hh]
        by_cases hk : k = 1
        · rw [if_pos hk]
          cases b5 <;> first | (simp_all; done) | (simp_all; omega)
        · rw [if_neg hk]
          try rw [Bool.eq_iff_iff] at c2
          try simp only [beq_iff_eq, decide_eq_true_eq] at c2
          try rw [Bool.eq_iff_iff] at g100
          try simp only [beq_iff_eq, decide_eq_true_eq] at g100
          cases b1 <;> cases b2 <;> cases b3 <;> cases b4 <;> first | contradiction | (exfalso; omega) | (simp only [patS] <;> omega)
      · first | (rw [if_neg hh]; done) | (exfalso; omega) | (rw [if_neg hh]; simp; done)
    try simp only[↓cqA,cqB]at g77
    refine zZ E (qe E qaP E) (zZ E (ql E qM E E E E E) (zZ E (qu E qG E) (zZ E (qj E E E E) (zA E (qg E E E) (zX E (qt 83 E (fun g83 => ?_) (fun g83 => ?_)))))))
    · try simp only[↓cqA,cqB]at g83
      refine zY E (zY E (zY E (zY E (zY E (zY E ?_)))))
      refine zY E (zY E (zA E (qg E E E) (zK (qaN E (qd (qb ?_)))))); refine zX E (zK (qo (qm (zI hL (qh E qi) ?_ ?_))))
      · rfl
      refine ⟨qT ?_, rfl⟩
      rw [patB, qcQ]
      clear ih hwl hwr hwc hdL hdR hdC hhd hp htw hdt
      simp only [hdl, hdr, hdc] at *
      generalize p.l.length = L at *
      generalize p.r.length = R at *
      generalize p.c.length = C at *
      generalize patB d (hdP p.l) = b1 at *
      generalize patB d (hdP p.r) = b2 at *
      generalize patB d (hdP p.c) = b3 at *
      generalize qbD p.t = b4 at *
      generalize mayT p.t = b5 at *
      generalize p.t.kind = tk at *
      generalize p.rel = q at *
      generalize p.kind = k at *
      clear hdl hdr hdc
      rw [Bool.eq_iff_iff]
      by_cases hh : L ≤ 1 ∧ R ≤ 1 ∧ C ≤ 1
      · rw [if_pos hh]
        by_cases hk : k = 1
        · rw [if_pos hk]
          cases b5 <;> first | (simp_all; done) | (simp_all; omega)
        · rw [if_neg hk]
          try rw [Bool.eq_iff_iff] at c2
          try simp only [beq_iff_eq, decide_eq_true_eq] at c2
          try rw [Bool.eq_iff_iff] at g100
          try simp only [beq_iff_eq, decide_eq_true_eq] at g100
          cases b1 <;> cases b2 <;> cases b3 <;> cases b4 <;> first | contradiction | (exfalso; omega) | (simp only [patS] <;> omega)
      · first | (rw [if_neg hh]; done) | (exfalso; omega) | (rw [if_neg hh]; simp; done)
    try simp only[↓cqA,cqB]at g83
    refine zZ E (qe E qao E) (zZ E (ql E qU E E E E E) (zZ E (qj E E E E) (zZ E (qe E qaK E) (zZ E (ql E qM E E E E E) (zZ E (qu E qG E) (zZ E (qj E E E E) (zZ E (stp_neB E ul_bool E E) (zA E (qg E E E) (zK (qq E (fun c2 => ?_) (fun c2 => ?_)))))))))))
    · try simp only[↓cqA,cqB]at c2
      refine qd (qb (zX E (zK (qo (qm (zI hL (qh E qi) ?_ ?_))))))
      · rfl
      refine ⟨qT ?_, rfl⟩
      rw [patB, qcQ]
      clear ih hwl hwr hwc hdL hdR hdC hhd hp htw hdt
      simp only [hdl, hdr, hdc] at *
      generalize p.l.length = L at *
      generalize p.r.length = R at *
      generalize p.c.length = C at *
      generalize patB d (hdP p.l) = b1 at *
      generalize patB d (hdP p.r) = b2 at *
      generalize patB d (hdP p.c) = b3 at *
      generalize qbD p.t = b4 at *
      generalize mayT p.t = b5 at *
      generalize p.t.kind = tk at *
      generalize p.rel = q at *
      generalize p.kind = k at *
      clear hdl hdr hdc
      rw [Bool.eq_iff_iff]
      by_cases hh : L ≤ 1 ∧ R ≤ 1 ∧ C ≤ 1
      · rw [if_pos hh]
        by_cases hk : k = 1
        · rw [if_pos hk]
          cases b5 <;> first | (simp_all; done) | (simp_all; omega)
        · rw [if_neg hk]
          try rw [Bool.eq_iff_iff] at c2
          try simp only [beq_iff_eq, decide_eq_true_eq] at c2
          try rw [Bool.eq_iff_iff] at g100
          try simp only [beq_iff_eq, decide_eq_true_eq] at g100
          cases b1 <;> cases b2 <;> cases b3 <;> cases b4 <;> first | contradiction | (exfalso; omega) | (simp only [patS] <;> omega)
      · first | (rw [if_neg hh]; done) | (exfalso; omega) | (rw [if_neg hh]; simp; done)
    try simp only[↓cqA,cqB]at c2
    refine qr (qa (qd (qd (qZ 6 mixed E E E E (qf E zD (.run E (qe E qao E)) (qf E zD (.run E (ql E qU E E E E E)) (qf E zD (.run E (qj E E E E)) ?_))))))); refine qf E zD (.run E (qe E qa7 E)) (qf E zD (.run E (ql E qU E E E E E)) ?_)
    refine qf E zD (.run E (qY (avs := [_, _, _]) true E qbB E E (Between_ok p.rel 1 13) (fun _ => rfl) E)) (qak ⟨rfl, rfl, ?_⟩); refine zA E (stp_neB E ul_bool E E) (zX E (qt 100 E (fun g100 => ?_) (fun g100 => ?_)))
    · try simp only[↓cqA,cqB]at g100
      refine zY E (zY E (zY E (zY E (qaE E E E zD E zD (qaE E E E zD E zD ?_)))))
      refine qaE E E E zD E zD (zY E (zA E (qg E E E) (zK (qaN E (qd (qb ?_)))))); refine zX E (zK (qo (qm (zI hL (qh E qi) ?_ ?_))))
      · rfl
      refine ⟨qT ?_, rfl⟩
      rw [patB, qcQ]
      clear ih hwl hwr hwc hdL hdR hdC hhd hp htw hdt
      simp only [hdl, hdr, hdc] at *
      generalize p.l.length = L at *
      generalize p.r.length = R at *
      generalize p.c.length = C at *
      generalize patB d (hdP p.l) = b1 at *
      generalize patB d (hdP p.r) = b2 at *
      generalize patB d (hdP p.c) = b3 at *
      generalize qbD p.t = b4 at *
      generalize mayT p.t = b5 at *
      generalize p.t.kind = tk at *
      generalize p.rel = q at *
      generalize p.kind = k at *
      clear hdl hdr hdc
      rw [Bool.eq_iff_iff]
      by_cases hh : L ≤ 1 ∧ R ≤ 1 ∧ C ≤ 1
      · rw [if_pos hh]
        by_cases hk : k = 1
        · rw [if_pos hk]
          cases b5 <;> first | (simp_all; done) | (simp_all; omega)
        · rw [if_neg hk]
          try rw [Bool.eq_iff_iff] at c2
          try simp only [beq_iff_eq, decide_eq_true_eq] at c2
          try rw [Bool.eq_iff_iff] at g100
          try simp only [beq_iff_eq, decide_eq_true_eq] at g100
          cases b1 <;> cases b2 <;> cases b3 <;> cases b4 <;> first | contradiction | (exfalso; omega) | (simp only [patS] <;> omega)
      · first | (rw [if_neg hh]; done) | (exfalso; omega) | (rw [if_neg hh]; simp; done)
    try simp only[↓cqA,cqB]at g100
    refine zZ E (qe E qao E) (zZ E (ql E qU E E E E E) (zZ E (qj E E E E) (zZ E (qk (.inl E) E) (qt 104 E (fun g104 => ?_) (fun g104 => ?_)))))
    · try simp only[↓cqA,cqB]at g104
      refine zZ E (qe E qa7 E) (zZ E (ql E qU E E E E E) (zZ E (qj E E E E) (zZ E (qg E E E) (zA E (qg E E E) (zK (qq E (fun c3 => ?_) (fun c3 => ?_)))))))
      · try simp only[↓cqA,cqB]at c3
        refine qd (qb (zX E (zK (qo (qm (zI hL (qh E qi) ?_ ?_))))))
        · rfl
        refine ⟨qT ?_, rfl⟩
        rw [patB, qcQ]
        clear ih hwl hwr hwc hdL hdR hdC hhd hp htw hdt
        simp only [hdl, hdr, hdc] at *
        generalize p.l.length = L at *
        generalize p.r.length = R at *
        generalize p.c.length = C at *
        generalize patB d (hdP p.l) = b1 at *
        generalize patB d (hdP p.r) = b2 at *
        generalize patB d (hdP p.c) = b3 at *
        generalize qbD p.t = b4 at *
        generalize mayT p.t = b5 at *
        generalize p.t.kind = tk at *
        generalize p.rel = q at *
        generalize p.kind = k at *
        clear hdl hdr hdc
        rw [Bool.eq_iff_iff]
        by_cases hh : L ≤ 1 ∧ R ≤ 1 ∧ C ≤ 1
        · rw [if_pos hh]
          by_cases hk : k = 1
          · rw [if_pos hk]
            cases b5 <;> first | (simp_all; done) | (simp_all; omega)
          · rw [if_neg hk]
            try rw [Bool.eq_iff_iff] at c2
            try simp only [beq_iff_eq, decide_eq_true_eq] at c2
            try rw [Bool.eq_iff_iff] at g100
            try simp only [beq_iff_eq, decide_eq_true_eq] at g100
            cases b1 <;> cases b2 <;> cases b3 <;> cases b4 <;> first | contradiction | (exfalso; omega) | (simp only [patS] <;> omega)
        · first | (rw [if_neg hh]; done) | (exfalso; omega) | (rw [if_neg hh]; simp; done)
      try simp only[↓cqA,cqB]at c3
      refine qr (qa (qd (qb (zA E (qe E qaQ E) (zA E (ql E qM E E E E E) (zA E (qp E qG E E (by omega) (qbN (qdJ (by omega)))) (zA E (qC E qad E E) (zX E (zA E (qa0 E E E (by omega)) (qE (avs := [_, _]) true E E E zD qbd E E (ih (e - 1) (by omega) D (hdP p.l) hwl (hdL _ (hhd (by omega)))) E E (zX E (qt 117 E (fun g117 => ?_) (fun g117 => ?_)))))))))))))
      · try simp only[↓cqA,cqB]at g117
        refine zZ E (qe E qaP E) (zZ E (ql E qM E E E E E) (zZ E (qp E qG E E (by omega) (qbN (qdJ (by omega)))) (zZ E (qC E qad E E) (zZ E (qk (.inl E) E) (zZ E (qa0 E E E (by omega)) (zZ E (qY (avs := [_, _]) true E qbd E E (ih (e - 1) (by omega) D (hdP p.r) hwr (hdR _ (hhd (by omega)))) (fun _ => rfl) E) (zA E (qg E E E) (zX E (qt 126 E (fun g126 => ?_) (fun g126 => ?_))))))))))
        · try simp only[↓cqA,cqB]at g126
          refine zZ E (qe E qaK E) (zZ E (ql E qM E E E E E) (zZ E (qu E qG E) (zZ E (qj E E E E) (zZ E (qk (.inl E) E) (qt 131 E (fun g131 => ?_) (fun g131 => ?_))))))
          · try simp only[↓cqA,cqB]at g131
            refine zY E (zY E (zY E (zY E (zY E (zY E (zY E (zZ E (qg E E E) (zA E (qg E E E) (zX E (zK (qo (zI hL (qh E qi) ?_ ?_))))))))))))
            · rfl
            refine ⟨qT ?_, rfl⟩
            rw [patB, qcQ]
            clear ih hwl hwr hwc hdL hdR hdC hhd hp htw hdt
            simp only [hdl, hdr, hdc] at *
            generalize p.l.length = L at *
            generalize p.r.length = R at *
            generalize p.c.length = C at *
            generalize patB d (hdP p.l) = b1 at *
            generalize patB d (hdP p.r) = b2 at *
            generalize patB d (hdP p.c) = b3 at *
            generalize qbD p.t = b4 at *
            generalize mayT p.t = b5 at *
            generalize p.t.kind = tk at *
            generalize p.rel = q at *
            generalize p.kind = k at *
            clear hdl hdr hdc
            rw [Bool.eq_iff_iff]
            by_cases hh : L ≤ 1 ∧ R ≤ 1 ∧ C ≤ 1
            · rw [if_pos hh]
              by_cases hk : k = 1
              · rw [if_pos hk]
                cases b5 <;> first | (simp_all; done) | (simp_all; omega)
              · rw [if_neg hk]
                try rw [Bool.eq_iff_iff] at c2
                try simp only [beq_iff_eq, decide_eq_true_eq] at c2
                try rw [Bool.eq_iff_iff] at g100
                try simp only [beq_iff_eq, decide_eq_true_eq] at g100
                cases b1 <;> cases b2 <;> cases b3 <;> cases b4 <;> first | contradiction | (exfalso; omega) | (simp only [patS] <;> omega)
            · first | (rw [if_neg hh]; done) | (exfalso; omega) | (rw [if_neg hh]; simp; done)
          try simp only[↓cqA,cqB]at g131
          refine zZ E (qe E qaK E) (zZ E (ql E qM E E E E E) (zZ E (qp E qG E E (by omega) (qbN (qdJ (by omega)))) (zZ E (qC E qad E E) (zZ E (qk (.inl E) E) (zZ E (qa0 E E E (by omega)) (zZ E (qY (avs := [_, _]) true E qbd E E (ih (e - 1) (by omega) D (hdP p.c) hwc (hdC _ (hhd (by omega)))) (fun _ => rfl) E) (zZ E (qg E E E) (zA E (qg E E E) ?_))))))))
          refine zX E (zK (qo (zI hL (qh E qi) ?_ ?_)))
          · rfl
          refine ⟨qT ?_, rfl⟩
          rw [patB, qcQ]
          clear ih hwl hwr hwc hdL hdR hdC hhd hp htw hdt
          simp only [hdl, hdr, hdc] at *
          generalize p.l.length = L at *
          generalize p.r.length = R at *
          generalize p.c.length = C at *
          generalize patB d (hdP p.l) = b1 at *
          generalize patB d (hdP p.r) = b2 at *
          generalize patB d (hdP p.c) = b3 at *
          generalize qbD p.t = b4 at *
          generalize mayT p.t = b5 at *
          generalize p.t.kind = tk at *
          generalize p.rel = q at *
          generalize p.kind = k at *
          clear hdl hdr hdc
          rw [Bool.eq_iff_iff]
          by_cases hh : L ≤ 1 ∧ R ≤ 1 ∧ C ≤ 1
          · rw [if_pos hh]
            by_cases hk : k = 1
            · rw [if_pos hk]
              cases b5 <;> first | (simp_all; done) | (simp_all; omega)
            · rw [if_neg hk]
              try rw [Bool.eq_iff_iff] at c2
              try simp only [beq_iff_eq, decide_eq_true_eq] at c2
              try rw [Bool.eq_iff_iff] at g100
              try simp only [beq_iff_eq, decide_eq_true_eq] at g100
              cases b1 <;> cases b2 <;> cases b3 <;> cases b4 <;> first | contradiction | (exfalso; omega) | (simp only [patS] <;> omega)
          · first | (rw [if_neg hh]; done) | (exfalso; omega) | (rw [if_neg hh]; simp; done)
        try simp only[↓cqA,cqB]at g126
        refine zY E (zY E (zY E (zY E (zY E (qaE E E E zD E zD (qaE E E E zD E zD (qaE E E E zD E zD (qaE E E E zD E zD (qaE E E E zD E zD (qaE E E E zD E zD (qaE E E E zD E zD (zY E (zA E (qg E E E) (zX E (zK (qo (zI hL (qh E qi) ?_ ?_)))))))))))))))))
        · rfl
        refine ⟨qT ?_, rfl⟩
        rw [patB, qcQ]
        clear ih hwl hwr hwc hdL hdR hdC hhd hp htw hdt
        simp only [hdl, hdr, hdc] at *
        generalize p.l.length = L at *
        generalize p.r.length = R at *
        generalize p.c.length = C at *
        generalize patB d (hdP p.l) = b1 at *
        generalize patB d (hdP p.r) = b2 at *
        generalize patB d (hdP p.c) = b3 at *
        generalize qbD p.t = b4 at *
        generalize mayT p.t = b5 at *
        generalize p.t.kind = tk at *
        generalize p.rel = q at *
        generalize p.kind = k at *
        clear hdl hdr hdc
        rw [Bool.eq_iff_iff]
        by_cases hh : L ≤ 1 ∧ R ≤ 1 ∧ C ≤ 1
        · rw [if_pos hh]
          by_cases hk : k = 1
          · rw [if_pos hk]
            cases b5 <;> first | (simp_all; done) | (simp_all; omega)
          · rw [if_neg hk]
            try rw [Bool.eq_iff_iff] at c2
            try simp only [beq_iff_eq, decide_eq_true_eq] at c2
            try rw [Bool.eq_iff_iff] at g100
            try simp only [beq_iff_eq, decide_eq_true_eq] at g100
            cases b1 <;> cases b2 <;> cases b3 <;> cases b4 <;> first | contradiction | (exfalso; omega) | (simp only [patS] <;> omega)
        · first | (rw [if_neg hh]; done) | (exfalso; omega) | (rw [if_neg hh]; simp; done)
      try simp only[↓cqA,cqB]at g117
      refine zY E (zY E (zY E (zY E (zY E (zY E (zY E (zA E (qg E E E) (zX E (zY E (zY E (zY E (zY E (zY E (qaE E E E zD E zD (qaE E E E zD E zD (qaE E E E zD E zD (qaE E E E zD E zD ?_)))))))))))))))))
      refine qaE E E E zD E zD (qaE E E E zD E zD (qaE E E E zD E zD (zY E (zA E (qg E E E) (zX E (zK ?_)))))); refine qo (zI hL (qh E qi) ?_ ?_)
      · rfl
      refine ⟨qT ?_, rfl⟩
      rw [patB, qcQ]
      clear ih hwl hwr hwc hdL hdR hdC hhd hp htw hdt
      simp only [hdl, hdr, hdc] at *
      generalize p.l.length = L at *
      generalize p.r.length = R at *
      generalize p.c.length = C at *
      generalize patB d (hdP p.l) = b1 at *
      generalize patB d (hdP p.r) = b2 at *
      generalize patB d (hdP p.c) = b3 at *
      generalize qbD p.t = b4 at *
      generalize mayT p.t = b5 at *
      generalize p.t.kind = tk at *
      generalize p.rel = q at *
      generalize p.kind = k at *
      clear hdl hdr hdc
      rw [Bool.eq_iff_iff]
      by_cases hh : L ≤ 1 ∧ R ≤ 1 ∧ C ≤ 1
      · rw [if_pos hh]
        by_cases hk : k = 1
        · rw [if_pos hk]
          cases b5 <;> first | (simp_all; done) | (simp_all; omega)
        · rw [if_neg hk]
          try rw [Bool.eq_iff_iff] at c2
          try simp only [beq_iff_eq, decide_eq_true_eq] at c2
          try rw [Bool.eq_iff_iff] at g100
          try simp only [beq_iff_eq, decide_eq_true_eq] at g100
          cases b1 <;> cases b2 <;> cases b3 <;> cases b4 <;> first | contradiction | (exfalso; omega) | (simp only [patS] <;> omega)
      · first | (rw [if_neg hh]; done) | (exfalso; omega) | (rw [if_neg hh]; simp; done)
    try simp only[↓cqA,cqB]at g104
    refine zY E (zY E (zY E (zZ E (qg E E E) (zA E (qg E E E) (zK (qab E ?_)))))); refine qr (qa (qd (qb (zA E (qe E qaQ E) (zA E (ql E qM E E E E E) (zA E (qp E qG E E (by omega) (qbN (qdJ (by omega)))) (zA E (qC E qad E E) (zX E (zA E (qa0 E E E (by omega)) (qE (avs := [_, _]) true E E E zD qbd E E (ih (e - 1) (by omega) D (hdP p.l) hwl (hdL _ (hhd (by omega)))) E E (zX E (qt 117 E (fun g117 => ?_) (fun g117 => ?_)))))))))))))
    · try simp only[↓cqA,cqB]at g117
      refine zZ E (qe E qaP E) (zZ E (ql E qM E E E E E) (zZ E (qp E qG E E (by omega) (qbN (qdJ (by omega)))) (zZ E (qC E qad E E) (zZ E (qk (.inl E) E) (zZ E (qa0 E E E (by omega)) (zZ E (qY (avs := [_, _]) true E qbd E E (ih (e - 1) (by omega) D (hdP p.r) hwr (hdR _ (hhd (by omega)))) (fun _ => rfl) E) (zA E (qg E E E) (zX E (qt 126 E (fun g126 => ?_) (fun g126 => ?_))))))))))
      · try simp only[↓cqA,cqB]at g126
        refine zZ E (qe E qaK E) (zZ E (ql E qM E E E E E) (zZ E (qu E qG E) (zZ E (qj E E E E) (zZ E (qk (.inl E) E) (qt 131 E (fun g131 => ?_) (fun g131 => ?_))))))
        · try simp only[↓cqA,cqB]at g131
          refine zY E (zY E (zY E (zY E (zY E (zY E (zY E (zZ E (qg E E E) (zA E (qg E E E) (zX E (zK (qo (zI hL (qh E qi) ?_ ?_))))))))))))
          · rfl
          refine ⟨qT ?_, rfl⟩
          rw [patB, qcQ]
          clear ih hwl hwr hwc hdL hdR hdC hhd hp htw hdt
          simp only [hdl, hdr, hdc] at *
          generalize p.l.length = L at *
          generalize p.r.length = R at *
          generalize p.c.length = C at *
          generalize patB d (hdP p.l) = b1 at *
          generalize patB d (hdP p.r) = b2 at *
          generalize patB d (hdP p.c) = b3 at *
          generalize qbD p.t = b4 at *
          generalize mayT p.t = b5 at *
          generalize p.t.kind = tk at *
          generalize p.rel = q at *
          generalize p.kind = k at *
          clear hdl hdr hdc
          rw [Bool.eq_iff_iff]
          by_cases hh : L ≤ 1 ∧ R ≤ 1 ∧ C ≤ 1
          · rw [if_pos hh]
            by_cases hk : k = 1
            · rw [if_pos hk]
              cases b5 <;> first | (simp_all; done) | (simp_all; omega)
            · rw [if_neg hk]
              try rw [Bool.eq_iff_iff] at c2
              try simp only [beq_iff_eq, decide_eq_true_eq] at c2
              try rw [Bool.eq_iff_iff] at g100
              try simp only [beq_iff_eq, decide_eq_true_eq] at g100
              cases b1 <;> cases b2 <;> cases b3 <;> cases b4 <;> first | contradiction | (exfalso; omega) | (simp only [patS] <;> omega)
          · first | (rw [if_neg hh]; done) | (exfalso; omega) | (rw [if_neg hh]; simp; done)
        try simp only[↓cqA,cqB]at g131
        refine zZ E (qe E qaK E) (zZ E (ql E qM E E E E E) (zZ E (qp E qG E E (by omega) (qbN (qdJ (by omega)))) (zZ E (qC E qad E E) (zZ E (qk (.inl E) E) (zZ E (qa0 E E E (by omega)) (zZ E (qY (avs := [_, _]) true E qbd E E (ih (e - 1) (by omega) D (hdP p.c) hwc (hdC _ (hhd (by omega)))) (fun _ => rfl) E) (zZ E (qg E E E) (zA E (qg E E E) ?_))))))))
        refine zX E (zK (qo (zI hL (qh E qi) ?_ ?_)))
        · rfl
        refine ⟨qT ?_, rfl⟩
        rw [patB, qcQ]
        clear ih hwl hwr hwc hdL hdR hdC hhd hp htw hdt
        simp only [hdl, hdr, hdc] at *
        generalize p.l.length = L at *
        generalize p.r.length = R at *
        generalize p.c.length = C at *
        generalize patB d (hdP p.l) = b1 at *
        generalize patB d (hdP p.r) = b2 at *
        generalize patB d (hdP p.c) = b3 at *
        generalize qbD p.t = b4 at *
        generalize mayT p.t = b5 at *
        generalize p.t.kind = tk at *
        generalize p.rel = q at *
        generalize p.kind = k at *
        clear hdl hdr hdc
        rw [Bool.eq_iff_iff]
        by_cases hh : L ≤ 1 ∧ R ≤ 1 ∧ C ≤ 1
        · rw [if_pos hh]
          by_cases hk : k = 1
          · rw [if_pos hk]
            cases b5 <;> first | (simp_all; done) | (simp_all; omega)
          · rw [if_neg hk]
            try rw [Bool.eq_iff_iff] at c2
            try simp only [beq_iff_eq, decide_eq_true_eq] at c2
            try rw [Bool.eq_iff_iff] at g100
            try simp only [beq_iff_eq, decide_eq_true_eq] at g100
            cases b1 <;> cases b2 <;> cases b3 <;> cases b4 <;> first | contradiction | (exfalso; omega) | (simp only [patS] <;> omega)
        · first | (rw [if_neg hh]; done) | (exfalso; omega) | (rw [if_neg hh]; simp; done)
      try simp only[↓cqA,cqB]at g126
      refine zY E (zY E (zY E (zY E (zY E (qaE E E E zD E zD (qaE E E E zD E zD (qaE E E E zD E zD (qaE E E E zD E zD (qaE E E E zD E zD (qaE E E E zD E zD (qaE E E E zD E zD (zY E (zA E (qg E E E) (zX E (zK (qo (zI hL (qh E qi) ?_ ?_)))))))))))))))))
      · rfl
      refine ⟨qT ?_, rfl⟩
      rw [patB, qcQ]
      clear ih hwl hwr hwc hdL hdR hdC hhd hp htw hdt
      simp only [hdl, hdr, hdc] at *
      generalize p.l.length = L at *
      generalize p.r.length = R at *
      generalize p.c.length = C at *
      generalize patB d (hdP p.l) = b1 at *
      generalize patB d (hdP p.r) = b2 at *
      generalize patB d (hdP p.c) = b3 at *
      generalize qbD p.t = b4 at *
      generalize mayT p.t = b5 at *
      generalize p.t.kind = tk at *
      generalize p.rel = q at *
      generalize p.kind = k at *
      clear hdl hdr hdc
      rw [Bool.eq_iff_iff]
      by_cases hh : L ≤ 1 ∧ R ≤ 1 ∧ C ≤ 1
      · rw [if_pos hh]
        by_cases hk : k = 1
        · rw [if_pos hk]
          cases b5 <;> first | (simp_all; done) | (simp_all; omega)
        · rw [if_neg hk]
          try rw [Bool.eq_iff_iff] at c2
          try simp only [beq_iff_eq, decide_eq_true_eq] at c2
          try rw [Bool.eq_iff_iff] at g100
          try simp only [beq_iff_eq, decide_eq_true_eq] at g100
          cases b1 <;> cases b2 <;> cases b3 <;> cases b4 <;> first | contradiction | (exfalso; omega) | (simp only [patS] <;> omega)
      · first | (rw [if_neg hh]; done) | (exfalso; omega) | (rw [if_neg hh]; simp; done)
    try simp only[↓cqA,cqB]at g117
    refine zY E (zY E (zY E (zY E (zY E (zY E (zY E (zA E (qg E E E) (zX E (zY E (zY E (zY E (zY E (zY E (qaE E E E zD E zD (qaE E E E zD E zD (qaE E E E zD E zD (qaE E E E zD E zD ?_)))))))))))))))))
    refine qaE E E E zD E zD (qaE E E E zD E zD (qaE E E E zD E zD (zY E (zA E (qg E E E) (zX E (zK ?_)))))); refine qo (zI hL (qh E qi) ?_ ?_)
    · rfl
    refine ⟨qT ?_, rfl⟩
    rw [patB, qcQ]
    clear ih hwl hwr hwc hdL hdR hdC hhd hp htw hdt
    simp only [hdl, hdr, hdc] at *
    generalize p.l.length = L at *
    generalize p.r.length = R at *
    generalize p.c.length = C at *
    generalize patB d (hdP p.l) = b1 at *
    generalize patB d (hdP p.r) = b2 at *
    generalize patB d (hdP p.c) = b3 at *
    generalize qbD p.t = b4 at *
    generalize mayT p.t = b5 at *
    generalize p.t.kind = tk at *
    generalize p.rel = q at *
    generalize p.kind = k at *
    clear hdl hdr hdc
    rw [Bool.eq_iff_iff]
    by_cases hh : L ≤ 1 ∧ R ≤ 1 ∧ C ≤ 1
    · rw [if_pos hh]
      by_cases hk : k = 1
      · rw [if_pos hk]
        cases b5 <;> first | (simp_all; done) | (simp_all; omega)
      · rw [if_neg hk]
        try rw [Bool.eq_iff_iff] at c2
        try simp only [beq_iff_eq, decide_eq_true_eq] at c2
        try rw [Bool.eq_iff_iff] at g100
        try simp only [beq_iff_eq, decide_eq_true_eq] at g100
        cases b1 <;> cases b2 <;> cases b3 <;> cases b4 <;> first | contradiction | (exfalso; omega) | (simp only [patS] <;> omega)
    · first | (rw [if_neg hh]; done) | (exfalso; omega) | (rw [if_neg hh]; simp; done)
theorem rPattern_ok (D : Nat) (p : Pt) (hp : p.wf) (hd : dlP D p) : PF 59 [ptA false p] (bv (okP p)) := by
 refine qF Tryz.func59 E Tryz.ntmps59 zL fun c hL hQ hDD => (qd (qb (qy E E zD (qaa 1 E E E) E (zX E (zK (qd ?_)))))); refine qb (zA E (qK E qad E E E E) (qE (avs := [_, _]) true E E E zD qbd E E (rpattern_ok 8 (by omega) 8 E D p hp hd) E E (zX E (qt 5 E (fun g5 => ?_) (fun g5 => ?_)))))
 ·try simp only[↓cqA,cqB]at g5
  refine zZ E (qK E qad E E E E) (zZ E (qY (avs := [_]) true E qcu E E (Parts_ok 8 (by omega) p hp (by assumption)) (fun _ => rfl) E) (zZ E (qj E E E E) (zA E (qg E E E) (zX E (zK (qo (zI hL (qh E qi) ?_ ?_)))))))
  ·rfl
  refine ⟨qT ?_, rfl⟩
  rw [Bool.eq_iff_iff, okP_iff]
  simp_all
 try simp only[↓cqA,cqB]at g5
 refine zY E (zY E (zY E (zA E (qg E E E) (zX E (zK (qo (zI hL (qh E qi) ?_ ?_)))))))
 ·rfl
 refine ⟨qT ?_, rfl⟩
 rw [Bool.eq_iff_iff, okP_iff]
 simp_all
theorem rRule_ok (D : Nat) (r : Rl) (hr : r.wf) (hd : dlP D r.body) (hg : ∀ g ∈ r.g, dle 30 g.r) : PF 50 [rlA r] (bv (okR r)) := by
 obtain ⟨h1, h2, h3, _⟩ := id hr
 refine qF Tryz.func50 E Tryz.ntmps50 zL fun c hL hQ hDD => (qd (qb (qy E E zD (qaa 1 E E E) E (zX E (zK (qd ?_)))))); refine qb (zA E (qe E qcs E) (zA E (ql E qw E E E E E) (qE (avs := [_]) true E E E zD qbC E E (rTerm_ok r.head h1) E E (zX E (qt 6 E (fun g6 => ?_) (fun g6 => ?_))))))
 ·try simp only[↓cqA,cqB]at g6
  refine zZ E (qe E qcs E) (zZ E (qe E qar E) (zZ E (ql E qU E E E E E) (zZ E (qj E E E E) (zA E (qg E E E) (zX E (qt 12 E (fun g12 => ?_) (fun g12 => ?_)))))))
  ·try simp only[↓cqA,cqB]at g12
   refine zZ E (qe E qdn E) (zZ E (ql E qad E E E E E) (zZ E (qY (avs := [_]) true E qd0 E E (rPattern_ok D r.body h2 hd) (fun _ => rfl) E) (zA E (qg E E E) (zX E (qt 17 E (fun g17 => ?_) (fun g17 => ?_))))))
   ·try simp only[↓cqA,cqB]at g17
    refine zZ E (qe E qdW E) (zZ E (ql E qdz E E E E E) (zZ E (qY (avs := [_, _]) true E en_almagestref4_Guards E E (rGuards_ok r.g h3.1 h3.2 hg) (fun _ => rfl) E) (zA E (qg E E E) (zX E (qt 22 E (fun g22 => ?_) (fun g22 => ?_))))))
    ·try simp only[↓cqA,cqB]at g22
     refine zZ E (qe E fo_api_Rule_3 E) (zZ E (ql E qU E E E E E) (zZ E (qY (avs := [_, _]) true E en_almagestref0_Num E E (Num_ok r.within 1073741824) (fun _ => rfl) E) (zA E (qg E E E) (zX E (qt 27 E (fun g27 => ?_) (fun g27 => ?_))))))
     ·try simp only[↓cqA,cqB]at g27
      refine zZ E (qe E qdm E) (zZ E (ql E qU E E E E E) (zZ E (qY (avs := [_, _]) true E en_almagestref0_Num E E (Num_ok r.policy 2) (fun _ => rfl) E) (zA E (qg E E E) (zX E (zK (qo (zI hL (qh E qi) ?_ ?_)))))))
      ·rfl
      refine ⟨qT ?_, rfl⟩
      first | (simp_all [okR]; done) | (simp_all [okR]; omega) | (simp_all [okR]; intros; omega)
     try simp only[↓cqA,cqB]at g27
     refine zY E (zY E (zY E (zA E (qg E E E) (zX E (zK (qo (zI hL (qh E qi) ?_ ?_)))))))
     ·rfl
     refine ⟨qT ?_, rfl⟩
     first | (simp_all [okR]; done) | (simp_all [okR]; omega) | (simp_all [okR]; intros; omega)
    try simp only[↓cqA,cqB]at g22
    refine zY E (zY E (zY E (zA E (qg E E E) (zX E (zY E (zY E (zY E (zA E (qg E E E) (zX E (zK (qo (zI hL (qh E qi) ?_ ?_))))))))))))
    ·rfl
    refine ⟨qT ?_, rfl⟩
    first | (simp_all [okR]; done) | (simp_all [okR]; omega) | (simp_all [okR]; intros; omega)
   try simp only[↓cqA,cqB]at g17
   refine zY E (zY E (zY E (zA E (qg E E E) (zX E (zY E (zY E (zY E (zA E (qg E E E) (zX E (zY E (zY E (zY E (zA E (qg E E E) (zX E (zK (qo (zI hL (qh E qi) ?_ ?_)))))))))))))))))
   ·rfl
   refine ⟨qT ?_, rfl⟩
   first | (simp_all [okR]; done) | (simp_all [okR]; omega) | (simp_all [okR]; intros; omega)
  try simp only[↓cqA,cqB]at g12
  refine zY E (zY E (zY E (zA E (qg E E E) (zX E (zY E (zY E (zY E (zA E (qg E E E) (zX E (zY E (zY E ?_)))))))))))
  refine zY E (zA E (qg E E E) (zX E (zY E (zY E (zY E (zA E (qg E E E) (zX E ?_))))))); refine zK (qo (zI hL (qh E qi) ?_ ?_))
  ·rfl
  refine ⟨qT ?_, rfl⟩
  first | (simp_all [okR]; done) | (simp_all [okR]; omega) | (simp_all [okR]; intros; omega)
 try simp only[↓cqA,cqB]at g6
 refine zY E (zY E (zY E (zY E (zA E (qg E E E) (zX E (zY E (zY E (zY E (zA E (qg E E E) (zX E (zY E (zY E (zY E (zA E (qg E E E) (zX E (zY E (zY E ?_)))))))))))))))))
 refine zY E (zA E (qg E E E) (zX E (zY E (zY E (zY E (zA E (qg E E E) (zX E ?_))))))); refine zK (qo (zI hL (qh E qi) ?_ ?_))
 ·rfl
 refine ⟨qT ?_, rfl⟩
 first | (simp_all [okR]; done) | (simp_all [okR]; omega) | (simp_all [okR]; intros; omega)
def qck : Nat → Int → Pt → Int
  | 0, _, _ => 0
  | d + 1, n, p =>
    if p.kind = 1 then n
    else if p.kind = 4 then min 1000 (qck d n (hdP p.l)) + min 1000 (qck d n (hdP p.r))
    else min 1048576 (min 1000 (qck d n (hdP p.l)) * min 1000 (qck d n (hdP p.r)) * (if p.kind = 5 then 1 + min 1000 (qck d n (hdP p.c)) else 1))
theorem workP_range : ∀ (d : Nat) (n : Int) (p : Pt), 0 ≤ n → n ≤ 1000000000 → 0 ≤ qck d n p ∧ qck d n p ≤ 1000000000
  | 0, n, p, h0, h1 => by simp [qck]
  | d + 1, n, p, h0, h1 => by
    have a1 := workP_range d n (hdP p.l) h0 h1
    have a2 := workP_range d n (hdP p.r) h0 h1
    have a3 := workP_range d n (hdP p.c) h0 h1
    rw [qck]
    split
    · omega
    · split
      · omega
      · have hx : 0 ≤ min 1000 (qck d n (hdP p.l)) := by omega
        have hy : 0 ≤ min 1000 (qck d n (hdP p.r)) := by omega
        have hz : 0 ≤ (if p.kind = 5 then 1 + min 1000 (qck d n (hdP p.c)) else 1) := by split <;> omega
        have := Int.mul_nonneg (Int.mul_nonneg hx hy) hz
        omega
theorem mul_le {x y a b : Int} (hx : 0 ≤ x) (hxa : x ≤ a) (hy : 0 ≤ y) (hyb : y ≤ b) : 0 ≤ x * y ∧ x * y ≤ a * b :=
 ⟨Int.mul_nonneg hx hy, Int.mul_le_mul hxa hyb hy (by omega)⟩
theorem work_ok : ∀ (d : Nat) (p : Pt), p.wf → patB d p = true → ∀ n : Int, 0 ≤ n → n ≤ 1000000000 → PF 60 [ptA false p, iv n] (iv (qck d n p))
  | 0, p, _, h => by rw [patB] at h; cases h
  | d + 1, p, hp, hb => fun n h0 h1 => by
    have ih := fun q hq hb => work_ok d q hq hb n h0 h1
    have hdl := qaW p.l
    have hdr := qaW p.r
    have hdc := qaW p.c
    have hwl := hdP_wf hp.2.2.2.1.2
    have hwr := hdP_wf hp.2.2.2.2.1.2
    have hwc := hdP_wf hp.2.2.2.2.2.2
    have a1 := workP_range d n (hdP p.l) h0 h1
    have a2 := workP_range d n (hdP p.r) h0 h1
    have a3 := workP_range d n (hdP p.c) h0 h1
    by_cases hk : p.kind = 1
    · rw [qck, if_pos hk]
      refine qF Tryz.func60 E Tryz.ntmps60 zL fun c hL hQ hDD => (qd (qb (qy E E zD (qaa 2 E E E) E (zX E (zK (qd ?_)))))); refine qd (qb (zA E (qe E qao E) (zA E (ql E qU E E E E E) (zA E (qj E E E E) (zK (qq E (fun c0 => ?_) (fun c0 => ?_)))))))
      · try simp only[↓cqA,cqB]at c0
        refine qd (qb (zX E (zX E (zK (qo (qm (zI hL (qh E qi) ?_ ?_)))))))
        · rfl
        exact ⟨rfl, rfl⟩
      try simp only[↓cqA,cqB]at c0
      omega
    · obtain ⟨_, hl1, hr1, hc5, _, hbl, hbr, hbc, hc1⟩ := patB_join hb hk
      rw [qck, if_neg hk]
      rw [min_if 1000, min_if 1000, min_if 1000]
      have m1 := mul_le (x := if qck d n (hdP p.l) < 1000 then qck d n (hdP p.l) else 1000) (y := if qck d n (hdP p.r) < 1000 then qck d n (hdP p.r) else 1000) (a := 1000) (b := 1000) (by split <;> omega) (by split <;> omega) (by split <;> omega) (by split <;> omega)
      have m2 := mul_le (x := (if qck d n (hdP p.l) < 1000 then qck d n (hdP p.l) else 1000) * (if qck d n (hdP p.r) < 1000 then qck d n (hdP p.r) else 1000)) (y := if p.kind = 5 then 1 + (if qck d n (hdP p.c) < 1000 then qck d n (hdP p.c) else 1000) else 1) (a := 1000 * 1000) (b := 1001) m1.1 m1.2 (by split <;> (try split) <;> omega) (by split <;> (try split) <;> omega)
      have z1 : 0 ≤ (if qck d n (hdP p.l) < 1000 then qck d n (hdP p.l) else 1000) ∧ (if qck d n (hdP p.l) < 1000 then qck d n (hdP p.l) else 1000) ≤ 1000 := by split <;> omega
      have z2 : 0 ≤ (if qck d n (hdP p.r) < 1000 then qck d n (hdP p.r) else 1000) ∧ (if qck d n (hdP p.r) < 1000 then qck d n (hdP p.r) else 1000) ≤ 1000 := by split <;> omega
      have z3 : 0 ≤ (if qck d n (hdP p.c) < 1000 then qck d n (hdP p.c) else 1000) ∧ (if qck d n (hdP p.c) < 1000 then qck d n (hdP p.c) else 1000) ≤ 1000 := by split <;> omega
      refine qF Tryz.func60 E Tryz.ntmps60 zL fun c hL hQ hDD => (qd (qb (qy E E zD (qaa 2 E E E) E (zX E (zK (qd ?_)))))); refine qd (qb (zA E (qe E qao E) (zA E (ql E qU E E E E E) (zA E (qj E E E E) (zK (qq E (fun c0 => ?_) (fun c0 => ?_)))))))
      · try simp only[↓cqA,cqB]at c0
        omega
      try simp only[↓cqA,cqB]at c0
      refine qr (qa (qd (qZ 15 mixed E E E E (qf E zD (.run E (qe E qaQ E)) (qf E zD (.run E (ql E qM E E E E E)) (qf E zD (.run E (qp E qG E E (by omega) (qbN (qdJ (by omega))))) (qf E zD (.run E (qC E qad E E)) (qf E zD (.run E (qk (.inl E) E)) (qf E zD (.run E (qY (avs := [_, _]) true E qcw E E (ih (hdP p.l) hwl hbl) (fun _ => rfl) E)) (qf E zD (.run E (stp_min E E E)) (qf E zD (.run E (qe E qaP E)) (qf E zD (.run E (ql E qM E E E E E)) ?_))))))))))))
      refine qf E zD (.run E (qp E qG E E (by omega) (qbN (qdJ (by omega))))) (qf E zD (.run E (qC E qad E E)) (qf E zD (.run E (qk (.inl E) E)) (qf E zD (.run E (qY (avs := [_, _]) true E qcw E E (ih (hdP p.r) hwr hbr) (fun _ => rfl) E)) (qf E zD (.run E (stp_min E E E)) (qf E zD (.run E (qk (.inr E) E)) ?_)))))
      refine qak ⟨rfl, rfl, ?_⟩; refine zX E (zK (qd (qb (zX E (zK (qcN ⟨[(2, .ptr 2 0), (5, iv (if qck d n (hdP p.l) < 1000 then qck d n (hdP p.l) else 1000)), (6, iv (if qck d n (hdP p.r) < 1000 then qck d n (hdP p.r) else 1000)), (7, iv (if p.kind = 5 then 1 + (if qck d n (hdP p.c) < 1000 then qck d n (hdP p.c) else 1000) else 1))], [(2, .box (lift false (ptD p)))]⟩ ?_ ?_))))))
      · refine qd (qb (zA E (qe E qao E) (zA E (ql E qU E E E E E) (zA E (qj E E E E) (zK (qq E (fun c1 => ?_) (fun c1 => ?_)))))))
        · try simp only[↓cqA,cqB]at c1
          refine qb ?_; refine zA E (qe E qaK E) ?_; refine zA E (ql E qM E E E E E) ?_; refine zA E (qp E qG E E (by omega) (qbN (qdJ (by have := hc5.1 (by assumption); omega)))) ?_; refine zA E (qC E qad E E) (zX E (qE (avs := [_, _]) true E E E zD qcw E E (ih (hdP p.c) hwc (hbc (by assumption))) E E (zA E (stp_min E E E) (zA E (qJ E E E (by omega)) (zX E (qc ?_))))))
          exact qai (qB (zC E (zC E (zC E (SubT.cons (qan E (by first | exact qL (by rw [if_pos (show p.kind = 5 by assumption)]) | exact qL (by rw [if_neg (show ¬ p.kind = 5 by assumption)]))) SubT.nil)))) (SubO.cons (qR rfl (by rfl)) SubO.nil) E E (noL' (noL hL) _))
        try simp only[↓cqA,cqB]at c1
        refine qr ?_
        exact qai (qB (zC E (zC E (zC E (SubT.cons (qan E (by first | exact qL (by rw [if_pos (show p.kind = 5 by assumption)]) | exact qL (by rw [if_neg (show ¬ p.kind = 5 by assumption)]))) SubT.nil)))) (SubO.cons (qR rfl (by rfl)) SubO.nil) E E (noL' (noL hL) _))
      refine qd (qd (qb (zA E (qe E qao E) (zA E (ql E qU E E E E E) (zA E (qj E E E E) (zK ?_)))))); refine qq E (fun c2 => ?_) (fun c2 => ?_)
      · try simp only[↓cqA,cqB]at c2
        refine qd (qb (zX E (zX E (zA E (qJ E E E (by omega)) (zX E (zK ?_)))))); refine qo (qm (zI hL (qh E qi) ?_ ?_))
        · rfl
        refine ⟨qa2 ?_, rfl⟩
        first
          | (rw [if_pos (show p.kind = 4 by assumption)]; done)
          | (rw [if_neg (show ¬ p.kind = 4 by assumption), min_if]; done)
          | trace_state
      try simp only[↓cqA,cqB]at c2
      refine qr (qa (qd (qb (zX E (zX E (zA E (stp_mul E E E (by omega)) (zX E (zA E (stp_mul E E E (by omega)) (zA E (stp_min E E E) (zX E (zK (qo (zI hL (qh E qi) ?_ ?_)))))))))))))
      · rfl
      refine ⟨qa2 ?_, rfl⟩
      first
        | (rw [if_pos (show p.kind = 4 by assumption)]; done)
        | (rw [if_neg (show ¬ p.kind = 4 by assumption), min_if]; done)
        | trace_state
def lightB (p : Pt) (n : Int) : Bool := okP p && decide (qck 8 n p < 30000)
theorem Light_ok (D : Nat) (p : Pt) (hp : p.wf) (hd : dlP D p) (n : Int) (h0 : 0 ≤ n) (h1 : n ≤ 1000000000) : PF 21 [ptA false p, iv n] (bv (lightB p n)) := by
 refine qF Tryz.func21 E Tryz.ntmps21 zL fun c hL hQ hDD => (qd (qb (qy E E zD (qaa 2 E E E) E (zX E (zK (qd ?_)))))); refine qb (zA E (qK E qad E E E E) (qE (avs := [_]) true E E E zD qd0 E E (rPattern_ok D p hp hd) E E (zX E (qt 7 E (fun g7 => ?_) (fun g7 => ?_)))))
 ·try simp only[↓cqA,cqB]at g7
  refine zZ E (qK E qad E E E E) (zZ E (qk (.inl E) E) (zZ E (qY (avs := [_, _]) true E qcw E E (work_ok 8 p hp ((okP_iff p).1 (by assumption)).1 n h0 h1) (fun _ => rfl) E) (zZ E (qj E E E E) (zA E (qg E E E) (zX E (zK (qo (zI hL (qh E qi) ?_ ?_))))))))
  ·rfl
  refine ⟨qT ?_, rfl⟩
  simp_all [lightB]
 try simp only[↓cqA,cqB]at g7
 refine zY E (zY E (zY E (zY E (zA E (qg E E E) (zX E (zK ?_)))))); refine qo (zI hL (qh E qi) ?_ ?_)
 ·rfl
 refine ⟨qT ?_, rfl⟩
 simp_all [lightB]
end Go.Proofs.YtpgceiijoedppaaGreat
