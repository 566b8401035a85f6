/- Part 13 of the proof: Nb, Mh, Io, In, Ip. -/
import Derived.Test.YtpgceiijoedppaaGreatB12
set_option linter.unusedVariables false
set_option linter.unusedSimpArgs false
set_option maxRecDepth 8000
namespace Go.Proofs.YtpgceiijoedppaaGreat
open Go
theorem Grow_pt_ok (f : Bool) (n : Nat) (hn : n * 144 ≤ 140737488355328) : AC Tryz.prog 277 [.imm (.slice none 0 0), iv n] [] (fun r O => r = .row 7 ∧ O = [(7, .rowd 36 9 f [])]) := by
 refine qF Tryz.func277 E Tryz.ntmps277 zL fun c hL hQ hDD => (qd (qb (zX E (zK (qd (qd ?_)))))); refine qb (zX E (zA E (qj E E E E) (zK (qq E (fun c0 => ?_) (fun c0 => ?_)))))
 ·try simp only[↓cqA,cqB]at c0
  omega
 try simp only[↓cqA,cqB]at c0
 refine qr (qa (qd (qd (qb (zX E (zX E (zA E (stp_cap_nil E qG E) ?_))))))); refine zX E (zA E (stp_len_nil E qG E) ?_)
 refine zA E (qa0 E E E (by omega)) (zA E (qa0 E E E (by omega)) (zX E (zK (qd (qb (zX E ?_)))))); refine zA E (qj E E E E) (zK (qq E (fun c1 => ?_) (fun c1 => ?_)))
 ·try simp only[↓cqA,cqB]at c1
  refine qb (zX E (zX E (zA E (stp_cap_nil E qG E) (zA E (stp_slnH E qG E E (by omega)) (zX E (awps_growz_nil 7 f ta_S_api_Pattern E E zD E E E E (by omega) E (by omega) zD fun cap hc1 hc2 => (zX E (zA E (stp_len_nil E qG E) (zA E (stp_slvH E qG E E (by omega) (by omega) (by omega)) ?_)))))))))
  refine zX E (zK (qd (qb (zX E (zX E (qc ?_)))))); refine qa (qo ?_)
  change retQ _ _ _ _ _ _ _
  refine retS (Sub.trans (qcm (l := 7) (cap := cap) (n := 0) [] E (noL hL _) ⟨List.replicate cap none, rfl⟩ E (by simp)) (qB (T1 := [(4, .row 7)]) (O1 := [(7, _)]) (SubT.cons (qan rfl (by simp [AV.rp, clV])) SubT.nil) (SubO.cons rfl SubO.nil) rfl rfl (noL' (noL hL) _))) (retO (O' := [(7, _)]) (.inl rfl) (qh rfl qi) (SubO.cons rfl SubO.nil) ?_ ?_ (noL' (noL hL) _) ?_)
  ·rfl
  ·rfl
  exact ⟨rfl, rfl⟩
 try simp only[↓cqA,cqB]at c1
 refine qr (qa (qd (qb (zX E (zX E (zK ?_)))))); refine qo ?_
 change retQ _ _ _ _ _ _ _
 refine retS (qaU (t := 4) (l := 7) 36 9 f E E) (retO (O' := [(7, _)]) (.inl E) (qh E qi) (SubO.cons E SubO.nil) ?_ ?_ (noL' (noL hL) _) ?_)
 ·rfl
 ·rfl
 exact ⟨rfl, rfl⟩
theorem Concat_pt_ok (rs : List (List (List D))) (hes : ∀ es ∈ rs, ∀ d ∈ es, d.length = 9) (hb : rs.flatten.length * 144 ≤ 140737488355328) (hn : rs.length ≤ 140737488351232) : AC Tryz.prog 229 [.dat false 1 (rs.map fun es => [D.sl 9 es])] [] (fun r O => r = .row 6 ∧ O = [(6, .rowd 36 9 false rs.flatten)]) := by
 have hlr : (rs.map fun es => [D.sl 9 es]).length = rs.length := List.length_map ..
 have hget : ∀ {i : Nat} {es : List (List D)}, rs[i]? = some es → (rs.map fun es => [D.sl 9 es])[i]? = some [D.sl 9 es] := fun {i es} h => by simp [h]
 refine qF Tryz.func229 E Tryz.ntmps229 zL fun c hL hQ hDD => (qd (qb (zX E (zK (qd (qb ?_)))))); refine zX E (zK (qd (qd (qb (zX E (zA E (qu E qco E) (zX E (zK (qv (q6 (rs.length) (fun k => k ≤ rs.length) (fun k => ⟨[(0, .dat false 1 (rs.map fun es => [D.sl 9 es])), (3, iv ((rs.take k).flatten.length : Int)), (9, .dat false 1 (rs.map fun es => [D.sl 9 es])), (10, iv (rs.map fun es => [D.sl 9 es]).length), (11, iv (k : Int))], []⟩) (by omega) ?_ (fun k hk hp => ?_)))))))))))
 ·exact zR hL (zC E (zC E (zC E (zC E (zC E SubT.nil))))) SubO.nil
 have hfl := flat_le rs k
 refine qd (qb (zA E (qj E E E E) (zK (qd (qq E (fun c0 => ?_) (fun c0 => ?_))))))
 ·try simp only[↓cqA,cqB]at c0
  obtain ⟨es, hu⟩ := qH (l := rs) (k := k) (by omega)
  have hfs := flat_snoc hu
  have hfl2 := flat_le rs (k + 1)
  have hfa : (rs.take (k + 1)).flatten.length = (rs.take k).flatten.length + es.length := by rw [hfs, List.length_append]
  refine qr (qa (qd (qv (qd (qb (zA E (qp E qco E E (by omega) (hget hu)) (zA E (qN E qM E) (zX E (zK (qd (qb (zX E (zX E (zA E (qu E qG E) ?_))))))))))))))
  refine zA E (qJ E E E (by omega)) (zX E (zK (qd (qb (zX E (zA E (qj E E E E) ?_)))))); refine zK (qq E (fun c1 => ?_) (fun c1 => ?_))
  ·try simp only[↓cqA,cqB]at c1
   omega
  try simp only[↓cqA,cqB]at c1
  refine qr (qP (qa (qb (zA E (qJ E E E (by omega)) (zX E (zK ?_)))))); refine ⟨?_, ?_, ?_⟩
  ·omega
  ·omega
  exact zR hL (zC E (SubT.cons (qan E (by rw [hfa]; exact qa2 (by omega))) (zC E (zC E (zC E SubT.nil))))) SubO.nil
 try simp only[↓cqA,cqB]at c0
 have hk1 : rs.take k = rs := List.take_of_length_le (by omega)
 rw [hk1]
 refine qQ ?_; refine qn (qn (qX ?_)); refine qa ?_; refine qd ?_; refine qb ?_; refine zX E ?_; refine qaj (avs := [_, _]) true E E E zD qdo E E (Grow_pt_ok true rs.flatten.length hb) E (qbX .nil) (by rintro r O' ⟨_, rfl⟩; exact frB E) (by rintro - r O' ⟨rfl, rfl⟩; exact ⟨rfl, rfl⟩) ?_
 rintro r O' ⟨rfl, rfl⟩
 refine qaB (sub_untag hQ) (zX E (zK (qd (qd (qb (zX E ?_)))))); refine zA E (qu E qco E) (zX E (zK (qv (q6 (rs.length) (fun k => k ≤ rs.length) (fun k => ⟨[(6, .row 6), (25, .dat false 1 (rs.map fun es => [D.sl 9 es])), (26, iv (rs.map fun es => [D.sl 9 es]).length), (27, iv (k : Int))], [(6, .rowd 36 9 false (rs.take k).flatten)]⟩) (by omega) ?_ (fun k hk hp => ?_)))))
 ·exact Sub.trans (qaC 7 6 (noL hL _) (noL hL _)) (qB (zC E (zC E (zC E (zC E SubT.nil)))) (SubO.cons (qR E (by rfl)) SubO.nil) E E (noL' (noL hL) _))
 refine qd (qb (zA E (qj E E E E) (zK (qd (qq E (fun c2 => ?_) (fun c2 => ?_))))))
 ·try simp only[↓cqA,cqB]at c2
  obtain ⟨es, hu⟩ := qH (l := rs) (k := k) (by omega)
  have hes1 := hes es (List.mem_of_getElem? hu)
  have hfs := flat_snoc hu
  have hfl2 := flat_le rs (k + 1)
  have hfa : (rs.take (k + 1)).flatten.length = (rs.take k).flatten.length + es.length := by rw [hfs, List.length_append]
  refine qr (qa (qd (qv (qd (qb (zA E (qp E qco E E (by omega) (hget hu)) (zA E (qN E qM E) ?_))))))); refine zX E (zK (qb (zX E (zX E ?_))))
  refine awps_append_src 33 ta_S_api_Pattern E E zD E E E (src_dat hes1 E) E hes1 (noL hL _) E (by omega) E (zX E (qc (qP (qa (qb (zA E (qJ E E E (by omega)) (zX E ?_))))))); refine zK ?_; refine ⟨?_, ?_, ?_⟩
  ·omega
  ·omega
  exact Sub.trans (qaC 33 6 (noL hL _) (noL hL _)) (qB (zC E (zC E (zC E (zC E SubT.nil)))) (SubO.cons (qR E (by rw [hfs]; rfl)) SubO.nil) E E (noL' (noL hL) _))
 try simp only[↓cqA,cqB]at c2
 refine qQ (qn (qn (qX ?_))); refine qa (qd (qb (zX E (zX E (zK (qo ?_))))))
 change retQ _ _ _ _ _ _ _
 refine retO (O' := [(6, _)]) (.inl E) (qh E qi) (SubO.cons E SubO.nil) ?_ ?_ (noL' (noL hL) _) ?_
 ·rfl
 ·rfl
 exact ⟨rfl, by rw [List.take_of_length_le (by omega)]⟩
theorem IndexFunc_pt_ok (B : Bool) (ts : List Pt) (es : List (List D)) (hes : es = ts.map ptD) (hlen : ts.length ≤ 140737488351232) (g : FuncId) (caps : List AV) (hen : qW Tryz.prog g) (Os : Nat → List (Nat × Ob)) (p : Nat → Bool) (hO : Thread B caps Os)
  (hstep : ∀ k u, ts[k]? = some u → (∀ j, j < k → p j = false) → AC Tryz.prog g (ptA false u :: caps) (Os k) (fun r O => r = bv (p k) ∧ O = Os (k + 1))) :
  AC Tryz.prog 276 [.dat false 9 es, .fn g caps] (Os 0) (fun r O => ∃ m n i, m ≤ ts.length ∧ (∀ j, j < m → p j = false) ∧ ((m < ts.length ∧ p m = true ∧ i = (m : Int) ∧ n = m + 1) ∨ (m = ts.length ∧ i = -1 ∧ n = m)) ∧ r = iv i ∧ O = Os n) := by
 have hl : es.length = ts.length := by rw [hes, List.length_map]
 refine qF Tryz.func276 E Tryz.ntmps276 zL fun c hL hQ hDD => (qd (qb (zX E (zK (qd (qd ?_)))))); refine qb (zX E (zA E (qu E qG E) (zX E (zK (qv (q6 (ts.length) (fun k => k ≤ ts.length ∧ ∀ j, j < k → p j = false) (fun k => ⟨[(0, .dat false 9 es), (1, .fn g caps), (7, iv es.length), (8, iv (k : Int))], Os k⟩) (⟨by omega, fun j hj => absurd hj (by omega)⟩) ?_ (fun k hk hp => ?_)))))))
 ·exact qB (zC E (zC E (zC E (zC E SubT.nil)))) (fun _ _ h => h) (by simp [allT, AV.allL, hO.all]) (hO.self _) (fun l hl => by rw [hO.dom]; exact (hL l).1 hl)
 refine qd (qb (zA E (qj E E E E) (zK (qd (qq E (fun c0 => ?_) (fun c0 => ?_))))))
 ·try simp only[↓cqA,cqB]at c0
  obtain ⟨u, hu⟩ := qH (l := ts) (k := k) (by omega)
  refine qr (qa (qd (qv (qd (qb (zX E (zX E ?_))))))); refine zK (qd (qb (zX E (zX E (zX E ?_)))))
  refine zA E (qp E qG E E (by omega) (by rw [hes, List.getElem?_map]; exact congrArg (Option.map ptD) hu)) ?_; refine zA E (qC E qad E E) ?_; refine qaj (avs := [_]) B E E E zD hen E E (hstep k u hu hp.2) (by rw [List.cons_append, List.nil_append]; simp only [AV.cvs, hO.cvs]; rfl) (hO.pass k) (by rintro r O' ⟨_, rfl⟩ l hl; left; rw [hO.dom] at hl ⊢; exact hl) (by rintro hB r O' ⟨rfl, rfl⟩; exact ⟨rfl, hO.q hB _⟩) ?_
  rintro r O' ⟨rfl, rfl⟩
  refine zK (qq E (fun c1 => ?_) (fun c1 => ?_))
  ·try simp only[↓cqA,cqB]at c1
   refine qd (qb (zX E (zX E (zK (qo (qS (qm (qm (qS (qm ?_))))))))))
   change retQ _ _ _ _ _ _ _
   refine retO (.inl E) (qh E qi) SubO.left rfl (hO.self _) (fun l hl => by rw [hO.dom]; exact (hL l).1 hl) ?_
   exact ⟨k, _, _, by omega, hp.2, .inl ⟨by omega, c1, rfl, rfl⟩, rfl, rfl⟩
  try simp only[↓cqA,cqB]at c1
  refine qr (qP (qa (qb (zA E (qJ E E E (by omega)) (zX E (zK ?_)))))); refine ⟨?_, ?_, ?_⟩
  ·omega
  ·refine ⟨by omega, fun j hj => ?_⟩
   by_cases hjk : j < k
   ·exact hp.2 j hjk
   ·rw [show j = k by omega]; exact c1
  exact qB (zC E (zC E (zC E (zC E SubT.nil)))) (SubO.left) (by simp [allT, AV.allL, hO.all]) (hO.self _) (fun l hl => by rw [hO.dom]; exact (hL l).1 hl)
 try simp only[↓cqA,cqB]at c0
 refine qQ (qn (qn (qX ?_))); refine qa (qd (qb (zX E (zK (qo ?_)))))
 change retQ _ _ _ _ _ _ _
 refine retO (.inl E) (qh E qi) (fun _ _ h => h) E (hO.self _) (fun l hl => by rw [hO.dom]; exact (hL l).1 hl) ?_
 exact ⟨k, _, _, by omega, hp.2, .inr ⟨by omega, rfl, rfl⟩, rfl, rfl⟩
theorem ContainsFunc_pt_ok (B : Bool) (ts : List Pt) (es : List (List D)) (hes : es = ts.map ptD) (hlen : ts.length ≤ 140737488351232) (g : FuncId) (caps : List AV) (hen : qW Tryz.prog g) (Os : Nat → List (Nat × Ob)) (p : Nat → Bool) (hO : Thread B caps Os)
  (hstep : ∀ k u, ts[k]? = some u → (∀ j, j < k → p j = false) → AC Tryz.prog g (ptA false u :: caps) (Os k) (fun r O => r = bv (p k) ∧ O = Os (k + 1))) :
  AC Tryz.prog 228 [.dat false 9 es, .fn g caps] (Os 0) (fun r O => ∃ m n b, m ≤ ts.length ∧ (∀ j, j < m → p j = false) ∧ ((m < ts.length ∧ p m = true ∧ b = true ∧ n = m + 1) ∨ (m = ts.length ∧ b = false ∧ n = m)) ∧ r = bv b ∧ O = Os n) := by
 refine qF Tryz.func228 E Tryz.ntmps228 zL fun c hL hQ hDD => (qd (qb (zX E (zK (qd (qb ?_)))))); refine zX E (zX E ?_)
 refine qaj (avs := [_, _]) B E E E zD qcM E E (IndexFunc_pt_ok B ts es hes hlen g caps hen Os p hO hstep) (by simp only [List.append_nil, AV.cvs, AV.cv, hO.cvs]; rfl) (hO.pass 0) (by rintro r O' ⟨m, n, i, _, _, _, _, rfl⟩ l hl; left; rw [hO.dom] at hl ⊢; exact hl) (by rintro hB r O' ⟨m, n, i, _, _, _, rfl, rfl⟩; exact ⟨rfl, hO.q hB _⟩) ?_
 rintro r O' ⟨m, n, i, hm, hf, hc, rfl, rfl⟩
 refine zA E (qj E E E E) (zX E (zK (qo ?_)))
 change retQ _ _ _ _ _ _ _
 refine retO (.inl E) (qh E qi) SubO.left rfl (hO.self _) (fun l hl => by rw [hO.dom]; exact (hL l).1 hl) ?_; refine ⟨m, n, _, hm, hf, ?_, rfl, rfl⟩
 rcases hc with ⟨h1, h2, rfl, h3⟩ | ⟨h1, rfl, h3⟩
 ·exact .inl ⟨h1, h2, by simp, h3⟩
 ·exact .inr ⟨h1, by simp, h3⟩
theorem spanRel_ok (r : Int) : PF 275 [iv r] (bv (decide (1 ≤ r ∧ r ≤ 13))) := by
 refine qF Tryz.func275 E Tryz.ntmps275 zL fun c hL hQ hDD => (qd (qb (zX E (zK (qd (qb ?_)))))); refine zX E (zA E (qj E E E E) (zX E (qt 5 E (fun g5 => ?_) (fun g5 => ?_))))
 ·try simp only[↓cqA,cqB]at g5
  refine zZ E (qk (.inl E) E) (zZ E (qj E E E E) (zA E (qg E E E) (zX E (zK (qo (zI hL (qh E qi) ?_ ?_))))))
  ·rfl
  refine ⟨qT ?_, rfl⟩
  first | (simp_all; done) | (simp_all; omega)
 try simp only[↓cqA,cqB]at g5
 refine zY E (zY E (zA E (qg E E E) (zX E (zK (qo (zI hL (qh E qi) ?_ ?_))))))
 ·rfl
 refine ⟨qT ?_, rfl⟩
 first | (simp_all; done) | (simp_all; omega)
theorem fields_no (p : Pt) (hp : p.wf) (hk : ¬ (2 ≤ p.kind ∧ p.kind ≤ 6)) : PF 227 [ptA false p] (bv (qbx p)) := by
  have hdl := qaW p.l
  have hdr := qaW p.r
  have hdc := qaW p.c
  have htw := hp.2.1
  obtain ⟨hlL, hwL⟩ := hp.2.2.2.1
  obtain ⟨hlR, hwR⟩ := hp.2.2.2.2.1
  obtain ⟨hlC, hwC⟩ := hp.2.2.2.2.2
  simp only [qba] at hlL hlR hlC
  refine qF Tryz.func227 E Tryz.ntmps227 zL fun c hL hQ hDD => (qd (qb (qy E E zD (qaa 1 E E E) E (zX E (zK (qd ?_)))))); refine qZ 5 mixed E E E E (qf E zD (.run E (qe E qa7 E)) (qf E zD (.run E (ql E qU E E E E E)) ?_))
  refine qf E zD (.run E (qj E E E E)) (qf E zD (.run E (qk (.inr E) E)) (qf E zD (.run E (qk (.inr E) E)) (qak ⟨rfl, rfl, ?_⟩))); refine zX E (zK (qd (qd (qb (zA E (qe E qao E) (zA E (ql E qU E E E E E) ?_))))))
  refine zK (qv (qd (qb (zA E (qj E E E E) (zX E (qc ?_)))))); refine qa (qq E (fun c0 => ?_) (fun c0 => ?_))
  · try simp only[↓cqA,cqB]at c0
    refine qd (qb (zA E (qe E qaQ E) (zA E (ql E qM E E E E E) (zA E (qu E qG E) (zA E (qe E qaP E) (zA E (ql E qM E E E E E) (zA E (qu E qG E) (zA E (qJ E E E (by omega)) (zA E (qe E qaK E) (zA E (ql E qM E E E E E) (zA E (qu E qG E) (zA E (qJ E E E (by omega)) (zA E (qj E E E E) (zX E (qt 25 E (fun g25 => ?_) (fun g25 => ?_))))))))))))))))
    · try simp only[↓cqA,cqB]at g25
      refine zZ E (qk (.inl E) E) (zA E (qg E E E) (zX E (qt 28 E (fun g28 => ?_) (fun g28 => ?_))))
      · try simp only[↓cqA,cqB]at g28
        refine zZ E (qe E qbo E) (zZ E (qe E qar E) (zZ E (ql E qU E E E E E) (zZ E (qj E E E E) (zA E (qg E E E) (zX E (qt 34 E (fun g34 => ?_) (fun g34 => ?_)))))))
        · try simp only[↓cqA,cqB]at g34
          refine zZ E (qe E qbo E) (zZ E (ql E qw E E E E E) (zZ E (qY (avs := [_]) true E qcL E E (May_ok p.t htw) (fun _ => rfl) E) (zA E (qg E E E) (zX E (zK (qo ?_)))))); refine qS (qm (zI hL (qh E qi) ?_ ?_))
          · rfl
          refine ⟨qT ?_, rfl⟩
          first
            | (exfalso; omega)
            | (rw [qbx, if_neg (show ¬ p.kind = 1 by omega), if_neg hk]; done)
            | (rw [qbx, if_pos (show p.kind = 1 by assumption), Bool.eq_iff_iff]
               cases mayT p.t <;> simp only [Bool.and_eq_true, decide_eq_true_eq, and_true, and_false, iff_false, iff_true, Bool.false_eq_true, true_iff, false_iff, not_false_eq_true] <;> omega)
            | trace_state
        try simp only[↓cqA,cqB]at g34
        refine zY E (zY E (zY E (zA E (qg E E E) (zX E (zK (qo ?_)))))); refine qS (qm (zI hL (qh E qi) ?_ ?_))
        · rfl
        refine ⟨qT ?_, rfl⟩
        first
          | (exfalso; omega)
          | (rw [qbx, if_neg (show ¬ p.kind = 1 by omega), if_neg hk]; done)
          | (rw [qbx, if_pos (show p.kind = 1 by assumption), Bool.eq_iff_iff]
             cases mayT p.t <;> simp only [Bool.and_eq_true, decide_eq_true_eq, and_true, and_false, iff_false, iff_true, Bool.false_eq_true, true_iff, false_iff, not_false_eq_true] <;> omega)
          | trace_state
      try simp only[↓cqA,cqB]at g28
      refine zY E (zY E (zY E (zY E (zA E (qg E E E) (zX E ?_)))))
      refine zY E (zY E (zY E (zA E (qg E E E) (zX E (zK (qo ?_)))))); refine qS (qm (zI hL (qh E qi) ?_ ?_))
      · rfl
      refine ⟨qT ?_, rfl⟩
      first
        | (exfalso; omega)
        | (rw [qbx, if_neg (show ¬ p.kind = 1 by omega), if_neg hk]; done)
        | (rw [qbx, if_pos (show p.kind = 1 by assumption), Bool.eq_iff_iff]
           cases mayT p.t <;> simp only [Bool.and_eq_true, decide_eq_true_eq, and_true, and_false, iff_false, iff_true, Bool.false_eq_true, true_iff, false_iff, not_false_eq_true] <;> omega)
        | trace_state
    try simp only[↓cqA,cqB]at g25
    refine zY E (zA E (qg E E E) (zX E (zY E (zY E (zY E (zY E (zA E (qg E E E) (zX E (zY E (zY E (zY E (zA E (qg E E E) (zX E (zK (qo (qS (qm (zI hL (qh E qi) ?_ ?_))))))))))))))))))
    · rfl
    refine ⟨qT ?_, rfl⟩
    first
      | (exfalso; omega)
      | (rw [qbx, if_neg (show ¬ p.kind = 1 by omega), if_neg hk]; done)
      | (rw [qbx, if_pos (show p.kind = 1 by assumption), Bool.eq_iff_iff]
         cases mayT p.t <;> simp only [Bool.and_eq_true, decide_eq_true_eq, and_true, and_false, iff_false, iff_true, Bool.false_eq_true, true_iff, false_iff, not_false_eq_true] <;> omega)
      | trace_state
  try simp only[↓cqA,cqB]at c0
  refine qd (qd (qb (zA E (qj E E E E) (zX E (zK (qq E (fun c1 => ?_) (fun c1 => ?_)))))))
  · try simp only[↓cqA,cqB]at c1
    omega
  try simp only[↓cqA,cqB]at c1
  refine qd (qb (zA E (qj E E E E) (zX E (zK (qq E (fun c2 => ?_) (fun c2 => ?_))))))
  · try simp only[↓cqA,cqB]at c2
    omega
  try simp only[↓cqA,cqB]at c2
  refine qb (zA E (qj E E E E) (zX E (zK (qq E (fun c3 => ?_) (fun c3 => ?_)))))
  · try simp only[↓cqA,cqB]at c3
    omega
  try simp only[↓cqA,cqB]at c3
  refine qd (qb (zA E (qj E E E E) (zX E (zK (qq E (fun c4 => ?_) (fun c4 => ?_))))))
  · try simp only[↓cqA,cqB]at c4
    omega
  try simp only[↓cqA,cqB]at c4
  refine qd (qb (zA E (qj E E E E) (zX E (zK (qq E (fun c5 => ?_) (fun c5 => ?_))))))
  · try simp only[↓cqA,cqB]at c5
    omega
  try simp only[↓cqA,cqB]at c5
  refine qd (qb (zX E (zK (qo (qS (qm (zI hL (qh E qi) ?_ ?_)))))))
  · rfl
  refine ⟨qT ?_, rfl⟩
  first
    | (exfalso; omega)
    | (rw [qbx, if_neg (show ¬ p.kind = 1 by omega), if_neg hk]; done)
    | (rw [qbx, if_pos (show p.kind = 1 by assumption), Bool.eq_iff_iff]
       cases mayT p.t <;> simp only [Bool.and_eq_true, decide_eq_true_eq, and_true, and_false, iff_false, iff_true, Bool.false_eq_true, true_iff, false_iff, not_false_eq_true] <;> omega)
    | trace_state
theorem fields_yes (p : Pt) (hp : p.wf) (hk : 2 ≤ p.kind ∧ p.kind ≤ 6) : PF 227 [ptA false p] (bv (qbx p)) := by
 have hdl := qaW p.l
 have hdr := qaW p.r
 have hdc := qaW p.c
 have htw := hp.2.1
 obtain ⟨hlL, hwL⟩ := hp.2.2.2.1
 obtain ⟨hlR, hwR⟩ := hp.2.2.2.2.1
 obtain ⟨hlC, hwC⟩ := hp.2.2.2.2.2
 simp only [qba] at hlL hlR hlC
 refine qF Tryz.func227 E Tryz.ntmps227 zL fun c hL hQ hDD => (qd (qb (qy E E zD (qaa 1 E E E) E (zX E (zK (qd ?_)))))); refine qZ 5 mixed E E E E (qf E zD (.run E (qe E qa7 E)) (qf E zD (.run E (ql E qU E E E E E)) ?_))
 refine qf E zD (.run E (qj E E E E)) (qf E zD (.run E (qk (.inr E) E)) (qf E zD (.run E (qk (.inr E) E)) (qak ⟨rfl, rfl, ?_⟩))); refine zX E (zK (qcN ⟨[(1, .ptr 1 0), (3, iv 1), (4, iv (if p.kind = 5 then 1 else 0)), (5, bv (if p.kind = 6 then decide (1 ≤ p.rel ∧ p.rel ≤ 13) else decide (p.rel = 0)))], [(1, .box (lift false (ptD p)))]⟩ ?_ ?_))
 ·refine qd (qb (zA E (qe E qao E) (zA E (ql E qU E E E E E) (zK (qv (qd ?_)))))); refine qb (zA E (qj E E E E) (zX E (zK (qq E (fun c0 => ?_) (fun c0 => ?_)))))
  ·try simp only[↓cqA,cqB]at c0
   omega
  try simp only[↓cqA,cqB]at c0
  refine qd (qd (qb (zA E (qj E E E E) (zX E (zK (qq E (fun c1 => ?_) (fun c1 => ?_)))))))
  ·try simp only[↓cqA,cqB]at c1
   refine qr (qa (qq E (fun c3 => ?_) (fun c3 => ?_)))
   ·try simp only[↓cqA,cqB]at c3
    refine qr (qP ?_)
    exact qai (qB (zC E (zC E (SubT.cons (qan E (by exact qL (by first | (rw [if_neg (show ¬ p.kind = 5 by omega)]; done) | (rw [if_pos (show p.kind = 5 by omega)]; done)))) (SubT.cons (qan E (by exact qb5 (by first | (rw [if_neg (show ¬ p.kind = 6 by omega)]; rfl) | (rw [if_pos (show p.kind = 6 by omega)]; done)))) SubT.nil)))) (SubO.cons (qR E (by rfl)) SubO.nil) E E (noL' (noL hL) _))
   try simp only[↓cqA,cqB]at c3
   refine qd (qb (zA E (qj E E E E) (zX E (zK (qq E (fun c4 => ?_) (fun c4 => ?_))))))
   ·try simp only[↓cqA,cqB]at c4
    refine qb (zX E (qc (qP ?_)))
    exact qai (qB (zC E (zC E (SubT.cons (qan E (by exact qL (by first | (rw [if_neg (show ¬ p.kind = 5 by omega)]; done) | (rw [if_pos (show p.kind = 5 by omega)]; done)))) (SubT.cons (qan E (by exact qb5 (by first | (rw [if_neg (show ¬ p.kind = 6 by omega)]; rfl) | (rw [if_pos (show p.kind = 6 by omega)]; done)))) SubT.nil)))) (SubO.cons (qR E (by rfl)) SubO.nil) E E (noL' (noL hL) _))
   try simp only[↓cqA,cqB]at c4
   refine qd (qb (zA E (qj E E E E) (zX E (zK (qq E (fun c5 => ?_) (fun c5 => ?_))))))
   ·try simp only[↓cqA,cqB]at c5
    refine qb (zA E (qe E qa7 E) (zA E (ql E qU E E E E E) (qE (avs := [_]) true E E E zD en_span_Rel E E (spanRel_ok p.rel) E E (zX E (qc (qP ?_))))))
    exact qai (qB (zC E (zC E (SubT.cons (qan E (by exact qL (by first | (rw [if_neg (show ¬ p.kind = 5 by omega)]; done) | (rw [if_pos (show p.kind = 5 by omega)]; done)))) (SubT.cons (qan E (by exact qb5 (by first | (rw [if_neg (show ¬ p.kind = 6 by omega)]; rfl) | (rw [if_pos (show p.kind = 6 by omega)]; done)))) SubT.nil)))) (SubO.cons (qR E (by rfl)) SubO.nil) E E (noL' (noL hL) _))
   try simp only[↓cqA,cqB]at c5
   omega
  try simp only[↓cqA,cqB]at c1
  refine qd (qb (zA E (qj E E E E) (zX E (zK (qq E (fun c2 => ?_) (fun c2 => ?_))))))
  ·try simp only[↓cqA,cqB]at c2
   refine qr (qa (qq E (fun c3 => ?_) (fun c3 => ?_)))
   ·try simp only[↓cqA,cqB]at c3
    refine qr (qP ?_)
    exact qai (qB (zC E (zC E (SubT.cons (qan E (by exact qL (by first | (rw [if_neg (show ¬ p.kind = 5 by omega)]; done) | (rw [if_pos (show p.kind = 5 by omega)]; done)))) (SubT.cons (qan E (by exact qb5 (by first | (rw [if_neg (show ¬ p.kind = 6 by omega)]; rfl) | (rw [if_pos (show p.kind = 6 by omega)]; done)))) SubT.nil)))) (SubO.cons (qR E (by rfl)) SubO.nil) E E (noL' (noL hL) _))
   try simp only[↓cqA,cqB]at c3
   refine qd (qb (zA E (qj E E E E) (zX E (zK (qq E (fun c4 => ?_) (fun c4 => ?_))))))
   ·try simp only[↓cqA,cqB]at c4
    refine qb (zX E (qc (qP ?_)))
    exact qai (qB (zC E (zC E (SubT.cons (qan E (by exact qL (by first | (rw [if_neg (show ¬ p.kind = 5 by omega)]; done) | (rw [if_pos (show p.kind = 5 by omega)]; done)))) (SubT.cons (qan E (by exact qb5 (by first | (rw [if_neg (show ¬ p.kind = 6 by omega)]; rfl) | (rw [if_pos (show p.kind = 6 by omega)]; done)))) SubT.nil)))) (SubO.cons (qR E (by rfl)) SubO.nil) E E (noL' (noL hL) _))
   try simp only[↓cqA,cqB]at c4
   refine qd (qb (zA E (qj E E E E) (zX E (zK (qq E (fun c5 => ?_) (fun c5 => ?_))))))
   ·try simp only[↓cqA,cqB]at c5
    refine qb (zA E (qe E qa7 E) (zA E (ql E qU E E E E E) (qE (avs := [_]) true E E E zD en_span_Rel E E (spanRel_ok p.rel) E E (zX E (qc (qP ?_))))))
    exact qai (qB (zC E (zC E (SubT.cons (qan E (by exact qL (by first | (rw [if_neg (show ¬ p.kind = 5 by omega)]; done) | (rw [if_pos (show p.kind = 5 by omega)]; done)))) (SubT.cons (qan E (by exact qb5 (by first | (rw [if_neg (show ¬ p.kind = 6 by omega)]; rfl) | (rw [if_pos (show p.kind = 6 by omega)]; done)))) SubT.nil)))) (SubO.cons (qR E (by rfl)) SubO.nil) E E (noL' (noL hL) _))
   try simp only[↓cqA,cqB]at c5
   omega
  try simp only[↓cqA,cqB]at c2
  refine qb (zA E (qj E E E E) (zX E (zK (qq E (fun c3 => ?_) (fun c3 => ?_)))))
  ·try simp only[↓cqA,cqB]at c3
   refine qr (qP ?_)
   exact qai (qB (zC E (zC E (SubT.cons (qan E (by exact qL (by first | (rw [if_neg (show ¬ p.kind = 5 by omega)]; done) | (rw [if_pos (show p.kind = 5 by omega)]; done)))) (SubT.cons (qan E (by exact qb5 (by first | (rw [if_neg (show ¬ p.kind = 6 by omega)]; rfl) | (rw [if_pos (show p.kind = 6 by omega)]; done)))) SubT.nil)))) (SubO.cons (qR E (by rfl)) SubO.nil) E E (noL' (noL hL) _))
  try simp only[↓cqA,cqB]at c3
  refine qd (qb (zA E (qj E E E E) (zX E (zK (qq E (fun c4 => ?_) (fun c4 => ?_))))))
  ·try simp only[↓cqA,cqB]at c4
   refine qb (zX E (qc (qP ?_)))
   exact qai (qB (zC E (zC E (SubT.cons (qan E (by exact qL (by first | (rw [if_neg (show ¬ p.kind = 5 by omega)]; done) | (rw [if_pos (show p.kind = 5 by omega)]; done)))) (SubT.cons (qan E (by exact qb5 (by first | (rw [if_neg (show ¬ p.kind = 6 by omega)]; rfl) | (rw [if_pos (show p.kind = 6 by omega)]; done)))) SubT.nil)))) (SubO.cons (qR E (by rfl)) SubO.nil) E E (noL' (noL hL) _))
  try simp only[↓cqA,cqB]at c4
  refine qd (qb (zA E (qj E E E E) (zX E (zK (qq E (fun c5 => ?_) (fun c5 => ?_))))))
  ·try simp only[↓cqA,cqB]at c5
   refine qb (zA E (qe E qa7 E) (zA E (ql E qU E E E E E) (qE (avs := [_]) true E E E zD en_span_Rel E E (spanRel_ok p.rel) E E (zX E (qc (qP ?_))))))
   exact qai (qB (zC E (zC E (SubT.cons (qan E (by exact qL (by first | (rw [if_neg (show ¬ p.kind = 5 by omega)]; done) | (rw [if_pos (show p.kind = 5 by omega)]; done)))) (SubT.cons (qan E (by exact qb5 (by first | (rw [if_neg (show ¬ p.kind = 6 by omega)]; rfl) | (rw [if_pos (show p.kind = 6 by omega)]; done)))) SubT.nil)))) (SubO.cons (qR E (by rfl)) SubO.nil) E E (noL' (noL hL) _))
  try simp only[↓cqA,cqB]at c5
  omega
 refine qd (qb (zA E (qe E qaQ E) (zA E (ql E qM E E E E E) (zA E (qu E qG E) (zX E (zA E (qj E E E E) (zX E ?_))))))); refine qt 55 E (fun g55 => ?_) (fun g55 => ?_)
 ·try simp only[↓cqA,cqB]at g55
  refine zZ E (qe E qaP E) (zZ E (ql E qM E E E E E) (zZ E (qu E qG E) (zZ E (qk (.inl E) E) (zZ E (qj E E E E) (zA E (qg E E E) (zX E (qt 62 E (fun g62 => ?_) (fun g62 => ?_))))))))
  ·try simp only[↓cqA,cqB]at g62
   refine zZ E (qe E qaK E) (zZ E (ql E qM E E E E E) (zZ E (qu E qG E) (zZ E (qk (.inl E) E) (zZ E (qj E E E E) (zA E (qg E E E) (zX E (qt 69 E (fun g69 => ?_) (fun g69 => ?_))))))))
   ·try simp only[↓cqA,cqB]at g69
    refine zZ E (qk (.inl E) E) (zA E (qg E E E) (zX E (qt 72 E (fun g72 => ?_) (fun g72 => ?_))))
    ·try simp only[↓cqA,cqB]at g72
     refine zZ E (qe E qbo E) (zZ E (ql E qw E E E E E) (zZ E (qY (avs := [_]) true E en_show_none E E (showNone_ok p.t htw) (fun _ => rfl) E) (zA E (qg E E E) (zX E (zK (qo (zI hL (qh E qi) ?_ ?_)))))))
     ·rfl
     refine ⟨qT ?_, rfl⟩
     rw [qbx, if_neg (by omega), if_pos hk, Bool.eq_iff_iff]
     by_cases h5 : p.kind = 5
     ·have h6 : ¬ p.kind = 6 := by omega
      simp only [h5, h6, if_true, if_false] at *
      cases qbD p.t <;> simp_all <;> omega
     ·by_cases h6 : p.kind = 6
      ·simp only [h5, h6, if_true, if_false] at *
       cases qbD p.t <;> simp_all <;> omega
      ·simp only [h5, h6, if_true, if_false] at *
       cases qbD p.t <;> simp_all <;> omega
    try simp only[↓cqA,cqB]at g72
    refine zY E (zY E (zY E (zA E (qg E E E) (zX E (zK (qo (zI hL (qh E qi) ?_ ?_)))))))
    ·rfl
    refine ⟨qT ?_, rfl⟩
    rw [qbx, if_neg (by omega), if_pos hk, Bool.eq_iff_iff]
    by_cases h5 : p.kind = 5
    ·have h6 : ¬ p.kind = 6 := by omega
     simp only [h5, h6, if_true, if_false] at *
     cases qbD p.t <;> simp_all <;> omega
    ·by_cases h6 : p.kind = 6
     ·simp only [h5, h6, if_true, if_false] at *
      cases qbD p.t <;> simp_all <;> omega
     ·simp only [h5, h6, if_true, if_false] at *
      cases qbD p.t <;> simp_all <;> omega
   try simp only[↓cqA,cqB]at g69
   refine zY E (zA E (qg E E E) (zX E (zY E (zY E (zY E (zA E (qg E E E) (zX E ?_))))))); refine zK (qo (zI hL (qh E qi) ?_ ?_))
   ·rfl
   refine ⟨qT ?_, rfl⟩
   rw [qbx, if_neg (by omega), if_pos hk, Bool.eq_iff_iff]
   by_cases h5 : p.kind = 5
   ·have h6 : ¬ p.kind = 6 := by omega
    simp only [h5, h6, if_true, if_false] at *
    cases qbD p.t <;> simp_all <;> omega
   ·by_cases h6 : p.kind = 6
    ·simp only [h5, h6, if_true, if_false] at *
     cases qbD p.t <;> simp_all <;> omega
    ·simp only [h5, h6, if_true, if_false] at *
     cases qbD p.t <;> simp_all <;> omega
  try simp only[↓cqA,cqB]at g62
  refine zY E (zY E (zY E (zY E (zY E (zA E (qg E E E) (zX E (zY E (zA E (qg E E E) (zX E (zY E (zY E (zY E (zA E (qg E E E) (zX E (zK (qo (zI hL (qh E qi) ?_ ?_)))))))))))))))))
  ·rfl
  refine ⟨qT ?_, rfl⟩
  rw [qbx, if_neg (by omega), if_pos hk, Bool.eq_iff_iff]
  by_cases h5 : p.kind = 5
  ·have h6 : ¬ p.kind = 6 := by omega
   simp only [h5, h6, if_true, if_false] at *
   cases qbD p.t <;> simp_all <;> omega
  ·by_cases h6 : p.kind = 6
   ·simp only [h5, h6, if_true, if_false] at *
    cases qbD p.t <;> simp_all <;> omega
   ·simp only [h5, h6, if_true, if_false] at *
    cases qbD p.t <;> simp_all <;> omega
 try simp only[↓cqA,cqB]at g55
 refine zY E (zY E (zY E (zY E (zY E (zA E (qg E E E) (zX E (zY E (zY E (zY E (zY E (zY E (zA E (qg E E E) (zX E (zY E (zA E (qg E E E) (zX E (zY E (zY E (zY E (zA E (qg E E E) (zX E (zK (qo ?_)))))))))))))))))))))))
 refine zI hL (qh E qi) ?_ ?_
 ·rfl
 refine ⟨qT ?_, rfl⟩
 rw [qbx, if_neg (by omega), if_pos hk, Bool.eq_iff_iff]
 by_cases h5 : p.kind = 5
 ·have h6 : ¬ p.kind = 6 := by omega
  simp only [h5, h6, if_true, if_false] at *
  cases qbD p.t <;> simp_all <;> omega
 ·by_cases h6 : p.kind = 6
  ·simp only [h5, h6, if_true, if_false] at *
   cases qbD p.t <;> simp_all <;> omega
  ·simp only [h5, h6, if_true, if_false] at *
   cases qbD p.t <;> simp_all <;> omega
theorem fields_ok (p : Pt) (hp : p.wf) : PF 227 [ptA false p] (bv (qbx p)) := by
 by_cases hk : 2 ≤ p.kind ∧ p.kind ≤ 6
 ·exact fields_yes p hp hk
 ·exact fields_no p hp hk
def hasS (l : List ByteArray) (s : ByteArray) : Bool := l.any fun x => decide (x = s)
def allS (v h : List ByteArray) : Bool := v.all (hasS h)
def qbJ : Nat → Pt → List ByteArray
  | 0, _ => []
  | d + 1, p =>
    if p.kind = 1 then qb0 5 p.t
    else if p.kind = 4 then (qbJ d (hdP p.l)).filter (hasS (qbJ d (hdP p.r)))
    else qaM (qbJ d (hdP p.l)) (qbJ d (hdP p.r))
theorem varsR_len25 {t : Tm} (h : mayT t = true) : (qb0 5 t).length ≤ 25 := Nat.le_trans (varsR_len 5 t) (mayT_dle h).2
theorem boundP_len : ∀ (d : Nat) (p : Pt), patB d p = true → (qbJ d p).length ≤ 25 * 2 ^ d
  | 0, p, h => by rw [patB] at h; cases h
  | d + 1, p, h => by
    have h2d : 2 ^ (d + 1) = 2 ^ d + 2 ^ d := by rw [Nat.pow_succ]; omega
    have hp1 : 1 ≤ 2 ^ d := Nat.one_le_two_pow
    rw [qbJ]
    split
    · rename_i hk
      have := varsR_len25 (patB_term h hk).1
      omega
    · rename_i hk
      obtain ⟨_, _, _, _, _, h1, h2, _⟩ := patB_join h hk
      have a1 := boundP_len d _ h1
      have a2 := boundP_len d _ h2
      split
      · have := List.length_filter_le (hasS (qbJ d (hdP p.r))) (qbJ d (hdP p.l))
        omega
      · have := namesR_len (qbJ d (hdP p.r)) (qbJ d (hdP p.l))
        omega
def gdS (h : List ByteArray) (g : Gd) : Option (List ByteArray) :=
 if g.kind = 5 then some (qaM h (qb0 5 g.l))
 else if allS (if g.kind ≤ 4 then qaM (qb0 5 g.l) (qb0 5 g.r) else qb0 5 g.l) h = true then some h else none
def gdsS : List Gd → List ByteArray → Option (List ByteArray)
  | [], h => some h
  | g :: l, h => match gdS h g with
    | some h2 => gdsS l h2
    | none => none
theorem gdsS_snoc : ∀ (l : List Gd) (h : List ByteArray) (g : Gd), gdsS (l ++ [g]) h = (gdsS l h).bind fun h2 => gdS h2 g
  | [], h, g => by
    show (match gdS h g with | some h2 => gdsS [] h2 | none => none) = gdS h g
    cases gdS h g <;> rfl
  | a :: l, h, g => by
    simp only [List.cons_append, gdsS]
    cases gdS h a with
    | none => simp
    | some h2 => simp only; exact gdsS_snoc l h2 g
theorem gdsS_take {l : List Gd} {k : Nat} {g : Gd} (hg : l[k]? = some g) (h : List ByteArray) : gdsS (l.take (k + 1)) h = (gdsS (l.take k) h).bind fun h2 => gdS h2 g := by
 rw [qac hg, gdsS_snoc]
theorem gdsS_stop : ∀ (l : List Gd) (h : List ByteArray) (k : Nat), gdsS (l.take k) h = none → gdsS l h = none
  | [], h, k, e => by simp [gdsS] at e
  | a :: l, h, 0, e => by simp [gdsS] at e
  | a :: l, h, k + 1, e => by
    simp only [List.take_succ_cons, gdsS] at e ⊢
    cases h2 : gdS h a with
    | none => rfl
    | some h3 => rw [h2] at e; simp only at e ⊢; exact gdsS_stop l h3 k e
theorem gdS_len {h h2 : List ByteArray} {g : Gd} (ho : okG g = true) (e : gdS h g = some h2) : h2.length ≤ h.length + 25 := by
 unfold gdS at e
 by_cases hk : g.kind = 5
 ·rw [if_pos hk] at e
  cases e
  have : mayT g.l = true := by
   simp only [okG, cmpsB, hk] at ho
   simp only [Bool.or_eq_true, Bool.and_eq_true, decide_eq_true_eq] at ho
   rcases ho with ho | ho
   ·exact ho.1.2
   ·exact ho.1.2.1
  have h1 := varsR_len25 this
  have := namesR_len (qb0 5 g.l) h
  omega
 ·rw [if_neg hk] at e
  by_cases ha : allS (if g.kind ≤ 4 then qaM (qb0 5 g.l) (qb0 5 g.r) else qb0 5 g.l) h = true
  ·rw [if_pos ha] at e
   cases e; omega
  ·rw [if_neg ha] at e
   cases e
theorem gdsS_len : ∀ (l : List Gd) (h h2 : List ByteArray), (∀ g ∈ l, okG g = true) → gdsS l h = some h2 → h2.length ≤ h.length + 25 * l.length
  | [], h, h2, _, e => by cases e; simp
  | a :: l, h, h2, ho, e => by
    simp only [gdsS] at e
    cases h3 : gdS h a with
    | none => rw [h3] at e; cases e
    | some h4 =>
      rw [h3] at e
      have h5 := gdS_len (ho a (by simp)) h3
      have := gdsS_len l h4 h2 (fun g hg => ho g (by simp [hg])) e
      simp only [List.length_cons]
      omega
def argS (h : List ByteArray) (a : Tm) : Bool := if a.kind = 1 then hasS h a.name else groundB a
def ruleE (r : Rl) : Int :=
 if okR r = true then
  match gdsS r.g (qbJ 8 r.body) with
  | none => 6
  | some h => if r.head.args.all (argS h) = true then 0 else 6
 else 1
theorem ruleE_ok {r : Rl} (h : ruleE r = 0) : okR r = true := by
 unfold ruleE at h
 split at h
 ·assumption
 ·cases h
theorem rGuard_ok (g : Gd) (hg : g.wf) (hr : dle 30 g.r) : PF 158 [gdA g] (bv (okG g)) := by
  have w1 := hg.2.1
  have w2 := hg.2.2
  have e3 : eqT 30 g.r zeroTm = qbD g.r := by
    rw [Bool.eq_iff_iff, eqT_iff 30 _ _ hr, none_iff]
  have key := AC_le (.cons .refl (.cons (zero_le false) .nil)) (EqTerm_ok 30 g.r zeroTm hr w2 zeroTm_wf)
  rw [e3] at key
  refine qF Tryz.func158 E Tryz.ntmps158 zL fun c hL hQ hDD => (qd (qb (qy E E zD (qaa 1 E E E) E (zX E (zK (qd ?_)))))); refine qd (qb (zA E (qe E qb8 E) (zA E (ql E qU E E E E E) (qE (avs := [_, _, _]) true E E E zD qbB E E (Between_ok _ _ _) E E (zK (qq E (fun c0 => ?_) (fun c0 => ?_)))))))
  · try simp only[↓cqA,cqB]at c0
    refine qd (qb (zA E (qe E qb7 E) (zA E (ql E qw E E E E E) (qE (avs := [_]) true E E E zD qbC E E (rTerm_ok g.l w1) E E (zX E (qt 9 E (fun g9 => ?_) (fun g9 => ?_)))))))
    · try simp only[↓cqA,cqB]at g9
      refine zZ E (qe E qcA E) (zZ E (ql E qw E E E E E) (zZ E (qY (avs := [_]) true E qbC E E (rTerm_ok g.r w2) (fun _ => rfl) E) (zA E (qg E E E) (zX E (zK (qo ?_)))))); refine qm (zI hL (qh E qi) ?_ ?_)
      · rfl
      refine ⟨qT ?_, rfl⟩
      simp_all [okG, cmpsB]
      try omega
      try (have h4 : ¬ g.kind ≤ 4 := by omega
           rcases (show g.kind = 5 ∨ g.kind = 6 by omega) with h | h <;> simp [h4, h])
    try simp only[↓cqA,cqB]at g9
    refine zY E (zY E (zY E (zA E (qg E E E) (zX E (zK (qo ?_)))))); refine qm (zI hL (qh E qi) ?_ ?_)
    · rfl
    refine ⟨qT ?_, rfl⟩
    simp_all [okG, cmpsB]
    try omega
    try (have h4 : ¬ g.kind ≤ 4 := by omega
         rcases (show g.kind = 5 ∨ g.kind = 6 by omega) with h | h <;> simp [h4, h])
  try simp only[↓cqA,cqB]at c0
  refine qr (qa (qd (qb (zA E (qe E qb8 E) (zA E (ql E qU E E E E E) (qE (avs := [_, _, _]) true E E E zD qbB E E (Between_ok _ _ _) E E (zX E ?_))))))); refine qt 17 E (fun g17 => ?_) (fun g17 => ?_)
  · try simp only[↓cqA,cqB]at g17
    refine zZ E (qe E qb7 E) (zZ E (ql E qw E E E E E) (zZ E (qY (avs := [_]) true E qbC E E (rTerm_ok g.l w1) (fun _ => rfl) E) (zA E (qg E E E) (zX E (qt 22 E (fun g22 => ?_) (fun g22 => ?_))))))
    · try simp only[↓cqA,cqB]at g22
      refine zZ E (qe E qb7 E) (zZ E (ql E qw E E E E E) (zZ E (qY (avs := [_]) true E en_almagestref1_Atom E E (rAtom_ok g.l (qbA (by assumption)) w1) (fun _ => rfl) E) (zA E (qg E E E) (zX E (qt 27 E (fun g27 => ?_) (fun g27 => ?_))))))
      · try simp only[↓cqA,cqB]at g27
        refine zZ E (qe E qcA E) (zZ E (ql E qw E E E E E) (zZ E (qa1 E qaw E qdI E E) (zZ E (qY (avs := [_, _]) true E qbh E E (key) (fun _ => rfl) E) (zA E (qg E E E) (zX E (zK (qo (zI hL (qh E qi) ?_ ?_))))))))
        · rfl
        refine ⟨qT ?_, rfl⟩
        simp_all [okG, cmpsB]
        try omega
        try (have h4 : ¬ g.kind ≤ 4 := by omega
             rcases (show g.kind = 5 ∨ g.kind = 6 by omega) with h | h <;> simp [h4, h])
      try simp only[↓cqA,cqB]at g27
      refine zY E (zY E (zY E (zY E (zA E (qg E E E) (zX E (zK ?_)))))); refine qo (zI hL (qh E qi) ?_ ?_)
      · rfl
      refine ⟨qT ?_, rfl⟩
      simp_all [okG, cmpsB]
      try omega
      try (have h4 : ¬ g.kind ≤ 4 := by omega
           rcases (show g.kind = 5 ∨ g.kind = 6 by omega) with h | h <;> simp [h4, h])
    try simp only[↓cqA,cqB]at g22
    refine zY E (zY E (zY E (zA E (qg E E E) (zX E (zY E (zY E (zY E (zY E (zA E (qg E E E) (zX E (zK (qo (zI hL (qh E qi) ?_ ?_)))))))))))))
    · rfl
    refine ⟨qT ?_, rfl⟩
    simp_all [okG, cmpsB]
    try omega
    try (have h4 : ¬ g.kind ≤ 4 := by omega
         rcases (show g.kind = 5 ∨ g.kind = 6 by omega) with h | h <;> simp [h4, h])
  try simp only[↓cqA,cqB]at g17
  refine zY E (zY E (zY E (zA E (qg E E E) (zX E (zY E (zY E (zY E (zA E (qg E E E) (zX E (zY E (zY E (zY E (zY E (zA E (qg E E E) (zX E (zK (qo (zI hL (qh E qi) ?_ ?_))))))))))))))))))
  · rfl
  refine ⟨qT ?_, rfl⟩
  simp_all [okG, cmpsB]
  try omega
  try (have h4 : ¬ g.kind ≤ 4 := by omega
       rcases (show g.kind = 5 ∨ g.kind = 6 by omega) with h | h <;> simp [h4, h])
theorem rGuards_ok (l : List Gd) (hl : qba l) (hw : ∀ g ∈ l, g.wf) (hr : ∀ g ∈ l, dle 30 g.r) : PF 96 [.dat false 9 (gdDs l), bv false] (bv (okGs l)) := by
  have hlen := gdDs_length l
  simp only [qba] at hl
  refine qF Tryz.func96 E Tryz.ntmps96 zL fun c hL hQ hDD => (qd (qb (zX E (zK (qd (qd ?_)))))); refine qb (zX E (qc (qa (qv (q6 (5) (fun k => k ≤ l.length ∧ k ≤ 5 ∧ ∀ (j : Nat) (g : Gd), j < k → l[j]? = some g → okG g = true) (fun k => ⟨[(0, .dat false 9 (gdDs l)), (1, bv false), (5, iv (k : Int))], []⟩) (⟨by omega, by omega, fun j g hj => absurd hj (by omega)⟩) ?_ (fun k hk hp => ?_))))))
  · exact zR hL (zC E (zC E (zC E SubT.nil))) SubO.nil
  refine qd (qd (qb (zX E (zX E (zA E (qu E qa8 E) (zA E (qj E E E E) (zX E ?_))))))); refine qt 10 E (fun g10 => ?_) (fun g10 => ?_)
  · try simp only[↓cqA,cqB]at g10
    refine zZ E (qk (.inl E) E) (zZ E (qj E E E E) (zA E (qg E E E) (zK (qq E (fun c0 => ?_) (fun c0 => ?_)))))
    · try simp only[↓cqA,cqB]at c0
      obtain ⟨u, hu⟩ := qH (l := l) (k := k) (by omega)
      have hum := List.mem_of_getElem? hu
      refine qr (qa (qd (qv (qd (qb (zX E (zX E ?_))))))); refine zA E (qp E qa8 E E (by omega) (gdDs_get hu)) (zA E (qC E qcl E E) (qE (avs := [_]) true E E E zD en_almagestref4_Guard E E (rGuard_ok u (hw u hum) (hr u hum)) E E (zA E (qal E E) (zX E (qt 22 E (fun g22 => ?_) (fun g22 => ?_))))))
      · try simp only[↓cqA,cqB]at g22
        refine zY E (zY E (qaE E E E zD E zD (qaE E E E zD E zD (qaE E E E zD E zD (qaE E E E zD E zD ?_)))))
        refine qaE E E E zD E zD (qaE E E E zD E zD (zY E (zA E (qg E E E) (zK (qaN E (qd ?_)))))); refine qb (zX E (zK (qo (qS (qm (qm (qS (qm (zI hL (qh E qi) ?_ ?_)))))))))
        · rfl
        refine ⟨qT ?_, rfl⟩
        first
          | (have : l.all okG = true := List.all_eq_true.2 fun x hx => by
               obtain ⟨j, hj⟩ := List.getElem?_of_mem hx
               exact hp.2.2 j x (by have := (List.getElem?_eq_some_iff.1 hj).1; omega) hj
             rw [okGs, this, hlen]
             by_cases h4 : l.length ≤ 4
             · rw [decide_eq_true h4, decide_eq_true (by omega)]; rfl
             · rw [decide_eq_false h4, decide_eq_false (by omega)]; rfl)
          | (have hb : okG u = false := by assumption
             have : l.all okG = false := List.all_eq_false.2 ⟨u, hum, by rw [hb]; exact Bool.noConfusion⟩
             rw [okGs, this, Bool.and_false])
          | (rw [okGs, decide_eq_false (by omega), decide_eq_false (by omega)]; rfl)
          | trace_state
      try simp only[↓cqA,cqB]at g22
      refine zZ E (qk (.inl E) E) (zZ E (qk (.inl E) E) (qt 24 E (fun g24 => ?_) (fun g24 => ?_)))
      · try simp only[↓cqA,cqB]at g24
        all_goals (exact absurd g24 (by simp))
      try simp only[↓cqA,cqB]at g24
      refine zY E (zY E (zY E (zY E (zY E (zY E ?_)))))
      refine zZ E (qg E E E) (zA E (qg E E E) (zK (qab E (qr (qP (qa ?_)))))); refine qb (zX E (zA E (qJ E E E (by omega)) (zX E (zK ?_)))); refine ⟨?_, ?_, ?_⟩
      · omega
      · refine ⟨by omega, by omega, fun j y hj hy => ?_⟩
        by_cases hjk : j < k
        · exact hp.2.2 j y hjk hy
        · rw [show j = k by omega, hu] at hy; cases hy; assumption
      exact zR hL (zC E (zC E (zC E SubT.nil))) SubO.nil
    try simp only[↓cqA,cqB]at c0
    refine qQ (qn (qn (qX ?_))); refine qa (qd (qb (zX E (zA E (qu E qa8 E) (zA E (qj E E E E) (zX E (qc ?_))))))); refine qa (qo (zI hL (qh E qi) ?_ ?_))
    · rfl
    refine ⟨qT ?_, rfl⟩
    first
      | (have : l.all okG = true := List.all_eq_true.2 fun x hx => by
           obtain ⟨j, hj⟩ := List.getElem?_of_mem hx
           exact hp.2.2 j x (by have := (List.getElem?_eq_some_iff.1 hj).1; omega) hj
         rw [okGs, this, hlen]
         by_cases h4 : l.length ≤ 4
         · rw [decide_eq_true h4, decide_eq_true (by omega)]; rfl
         · rw [decide_eq_false h4, decide_eq_false (by omega)]; rfl)
      | (have hb : okG u = false := by assumption
         have : l.all okG = false := List.all_eq_false.2 ⟨u, hum, by rw [hb]; exact Bool.noConfusion⟩
         rw [okGs, this, Bool.and_false])
      | (rw [okGs, decide_eq_false (by omega), decide_eq_false (by omega)]; rfl)
      | trace_state
  try simp only[↓cqA,cqB]at g10
  refine zY E (zY E (zA E (qg E E E) (zK (qab E (qQ (qn (qn (qX ?_)))))))); refine qa (qd (qb (zX E (zA E (qu E qa8 E) (zA E (qj E E E E) (zX E (zK (qo (zI hL (qh E qi) ?_ ?_)))))))))
  · rfl
  refine ⟨qT ?_, rfl⟩
  first
    | (have : l.all okG = true := List.all_eq_true.2 fun x hx => by
         obtain ⟨j, hj⟩ := List.getElem?_of_mem hx
         exact hp.2.2 j x (by have := (List.getElem?_eq_some_iff.1 hj).1; omega) hj
       rw [okGs, this, hlen]
       by_cases h4 : l.length ≤ 4
       · rw [decide_eq_true h4, decide_eq_true (by omega)]; rfl
       · rw [decide_eq_false h4, decide_eq_false (by omega)]; rfl)
    | (have hb : okG u = false := by assumption
       have : l.all okG = false := List.all_eq_false.2 ⟨u, hum, by rw [hb]; exact Bool.noConfusion⟩
       rw [okGs, this, Bool.and_false])
    | (rw [okGs, decide_eq_false (by omega), decide_eq_false (by omega)]; rfl)
    | trace_state
theorem eqBds_eq : ∀ {l m : List Bd}, (∀ b ∈ l, dle 5 b.t) → eqBds l m = true → l = m
  | [], [], _, _ => rfl
  | [], _ :: _, _, h => by cases h
  | _ :: _, [], _, h => by cases h
  | a :: l, b :: m, hd, h => by
    simp only [eqBds, eqBd, Bool.and_eq_true, decide_eq_true_eq] at h
    have h1 := (eqT_iff 5 _ _ (hd a (by simp))).1 h.1.2
    have ih := eqBds_eq (fun c hc => hd c (by simp [hc])) h.2
    have h2 := h.1.1
    cases a; cases b; simp only at h1 h2; rw [h1, h2, ih]
theorem wGs_dle {G : List Gd} (hw : ∀ g ∈ G, g.wf) (h : wGs G ≤ 1048575) : ∀ g ∈ G, dle 30 g.l ∧ dle 30 g.r := fun g hg => by
 have h1 := (wgtL_mem wG 1048575 (by omega) _ G (fun u hu => (wG_range u (hw u hu)).1) (by omega) h).2 g hg
 have hw2 := hw g hg
 have r1 := (qbL g.l hw2.2.1).1
 have r2 := (qbL g.r hw2.2.2).1
 have e : wG g = wT g.l + wT g.r := rfl
 exact ⟨wgt_dle 30 g.l (show wT g.l ≤ 1048575 by omega), wgt_dle 30 g.r (show wT g.r ≤ 1048575 by omega)⟩
end Go.Proofs.YtpgceiijoedppaaGreat
