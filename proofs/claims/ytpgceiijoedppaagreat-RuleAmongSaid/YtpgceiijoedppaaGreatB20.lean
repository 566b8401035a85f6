/- Part 20 of the proof: Nh, Na. -/
import Derived.Test.YtpgceiijoedppaaGreatB19
set_option linter.unusedVariables false
set_option linter.unusedSimpArgs false
set_option maxRecDepth 8000
namespace Go.Proofs.YtpgceiijoedppaaGreat
open Go
theorem filter_take {α : Type} (p : α → Bool) {l : List α} {k : Nat} {u : α} (hu : l[k]? = some u) : (l.take (k + 1)).filter p = (l.take k).filter p ++ (if p u = true then [u] else []) := by
 rw [qac hu, List.filter_append]
 congr 1
 by_cases h : p u = true <;> simp [h]
theorem filter_len {α : Type} (p : α → Bool) (l : List α) (k : Nat) : ((l.take k).filter p).length ≤ l.length := Nat.le_trans (List.length_filter_le _ _) (by simp; omega)
theorem HasS_ok (ns : List ByteArray) (hn : ns.length ≤ 140737488351232) (s : ByteArray) : PF 55 [.dat false 1 (qbw ns), sv s] (bv (hasS ns s)) := Has_ok ns hn s
theorem rVars5_ok (t : Tm) (ht : t.wf) (hm : mayT t = true) : PF 52 [tmA false t] (.dat true 1 (qbw (qb0 5 t))) := rVars_ok 5 t (mayT_dle hm).1 ht (by have := (mayT_dle hm).2; omega)
theorem bound_ok : ∀ (d : Nat), d ≤ 8 → ∀ p : Pt, p.wf → patB d p = true → PF 51 [ptA false p] (.dat true 1 (qbw (qbJ d p)))
  | 0, _ => fun p _ h => by rw [patB] at h; cases h
  | d + 1, hd => fun p hp hb => by
    have ih := bound_ok d (by omega)
    have hdl := qaW p.l
    have hdr := qaW p.r
    have hwl := hdP_wf hp.2.2.2.1.2
    have hwr := hdP_wf hp.2.2.2.2.1.2
    have htw := hp.2.1
    have h2d : 2 ^ d ≤ 256 := Nat.le_trans (Nat.pow_le_pow_right (by decide) (by omega : d ≤ 8)) (by decide)
    by_cases hk : p.kind = 1
    · have htm := (patB_term hb hk).1
      rw [qbJ, if_pos hk]
      refine qF Tryz.func51 E Tryz.ntmps51 zL fun c hL hQ hDD => (qd (qb (qy E E zD (qaa 1 E E E) E (zX E (zK (qd ?_)))))); refine qd (qb (zA E (qe E qao E) (zA E (ql E qU E E E E E) (zA E (qj E E E E) (zK (qq E (fun c0 => ?_) (fun c0 => ?_)))))))
      · try simp only[↓cqA,cqB]at c0
        refine qd (qb (zA E (qe E qbo E) (zA E (ql E qw E E E E E) (qE (avs := [_]) true E E E zD qbZ E E (rVars5_ok p.t htw htm) E E (zX E (zK ?_)))))); refine qo (qm (zI hL (qh E qi) ?_ ?_))
        · rfl
        exact ⟨rfl, rfl⟩
      try simp only[↓cqA,cqB]at c0
      omega
    · obtain ⟨_, hl1, hr1, hc5, _, hbl, hbr, hbc, hc1⟩ := patB_join hb hk
      have nl := boundP_len d _ hbl
      have nr := boundP_len d _ hbr
      have sl := qaX (qbJ d (hdP p.l))
      have sr := qaX (qbJ d (hdP p.r))
      rw [qbJ, if_neg hk]
      refine qF Tryz.func51 E Tryz.ntmps51 zL fun c hL hQ hDD => (qd (qb (qy E E zD (qaa 1 E E E) E (zX E (zK (qd ?_)))))); refine qd (qb (zA E (qe E qao E) (zA E (ql E qU E E E E E) (zA E (qj E E E E) (zK (qq E (fun c0 => ?_) (fun c0 => ?_)))))))
      · try simp only[↓cqA,cqB]at c0
        omega
      try simp only[↓cqA,cqB]at c0
      refine qr (qa (qd (qZ 9 mixed E E E E (qf E zD (.run E (qe E qaQ E)) (qf E zD (.run E (ql E qM E E E E E)) (qf E zD (.run E (qp E qG E E (by omega) (qbN (qdJ (by omega))))) (qf E zD (.run E (qC E qad E E)) (qf E zD (.run E (qY (avs := [_]) true E qcZ E E (ih (hdP p.l) hwl hbl) (fun _ => rfl) E)) (qf E zD (.run E (qe E qaP E)) (qf E zD (.run E (ql E qM E E E E E)) (qf E zD (.run E (qp E qG E E (by omega) (qbN (qdJ (by omega))))) (qf E zD (.run E (qC E qad E E)) ?_))))))))))))
      refine qak ⟨rfl, rfl, ?_⟩; refine qE (avs := [_]) true E E E zD qcZ E E (ih (hdP p.r) hwr hbr) E E (zX E (zX E (zK (qd (qd (qb ?_)))))); refine zA E (qe E qao E) (zA E (ql E qU E E E E E) (zA E (qj E E E E) (zK (qq E (fun c1 => ?_) (fun c1 => ?_)))))
      · try simp only[↓cqA,cqB]at c1
        rw [if_neg (show ¬ p.kind = 4 by assumption)]
        refine qd (qb (zX E (zX E (qE (avs := [_, _]) true E E E zD qcv E E (rNames_ok (qbJ d (hdP p.l)) (qbJ d (hdP p.r)) (by omega)) E E (zX E (zK ?_)))))); refine qo (qm (zI hL (qh E qi) ?_ ?_))
        · rfl
        first
        | exact ⟨rfl, rfl⟩
        | exact ⟨by rw [List.take_of_length_le (by omega)]; rfl, rfl⟩
      try simp only[↓cqA,cqB]at c1
      rw [if_pos (show p.kind = 4 by assumption)]
      refine qr (qa (qd (qb (zX E (zK (qd ?_)))))); refine qd (qb (zX E (zK (qv (q6 ((qbJ d (hdP p.l)).length) (fun i => i ≤ (qbJ d (hdP p.l)).length) (fun i => ⟨[(3, .dat true 1 (qbw (qbJ d (hdP p.l)))), (4, .dat true 1 (qbw (qbJ d (hdP p.r)))), (5, .row 5), (6, iv (i : Int))], [(5, .rowd 9 1 true (qbw (((qbJ d (hdP p.l)).take i).filter (hasS (qbJ d (hdP p.r))))))]⟩) (by omega) ?_ (fun i hi hpi => ?_))))))
      · exact Sub.trans (qaU (t := 5) (l := 5) 9 1 true E E) (qB (zC E (zC E (zC E (zC E SubT.nil)))) (SubO.cons (qR E (by rfl)) SubO.nil) E E (noL' (noL hL) _))
      have hfl := filter_len (hasS (qbJ d (hdP p.r))) (qbJ d (hdP p.l)) i
      have hfl2 := qaX (((qbJ d (hdP p.l)).take i).filter (hasS (qbJ d (hdP p.r))))
      refine qd (qd (qb (zX E (zX E (zA E (qu E qag E) (zA E (qj E E E E) (qc ?_))))))); refine qa (qq E (fun c2 => ?_) (fun c2 => ?_))
      · try simp only[↓cqA,cqB]at c2
        obtain ⟨u, hu⟩ := qH (l := qbJ d (hdP p.l)) (k := i) (by omega)
        have hft := filter_take (hasS (qbJ d (hdP p.r))) hu
        refine qr (qa (qd (qv (qd (qb (zX E (zX E ?_))))))); refine zX E (zA E (qp E qag E E (by omega) (qcb hu)) (zA E (qN E qaf E) (qE (avs := [_, _]) true E E E zD qdK E E (HasS_ok (qbJ d (hdP p.r)) (by omega) u) E E (zK (qq E (fun c3 => ?_) (fun c3 => ?_))))))
        · try simp only[↓cqA,cqB]at c3
          refine qb (zX E (zX E (zX E (zA E (qp E qag E E (by omega) (qcb hu)) (zA E (qN E qaf E) (qy E E zD (qam 46 E qag zv_string E E zD zD zD E E E) E ?_))))))
          refine qc1 E E zD (qa5 47 qcy E E E E E E E E (noL hL _) (by omega) E) E (zX E (qaB (qaC 47 5 (noL hL _) (noL hL _)) (qc (qP (qa (qb (zX E ?_))))))); refine zA E (qJ E E E (by omega)) ?_
          refine zX E (zK ?_); refine ⟨?_, ?_, ?_⟩
          · omega
          · omega
          exact qB (zC E (zC E (zC E (zC E SubT.nil)))) (SubO.cons (qR E (by rw [hft]; first | (rw [if_pos (by assumption)]; simp only [qbw, List.map_append]; rfl) | (rw [if_neg (by simp [c3]), List.append_nil]))) SubO.nil) rfl rfl (noL' (noL hL) _)
        try simp only[↓cqA,cqB]at c3
        refine qr (qP (qa (qb (zX E (zA E (qJ E E E (by omega)) (zX E (qc ?_))))))); refine qa ?_; refine ⟨?_, ?_, ?_⟩
        · omega
        · omega
        exact qB (zC E (zC E (zC E (zC E SubT.nil)))) (SubO.cons (qR E (by rw [hft]; first | (rw [if_pos (by assumption)]; simp only [qbw, List.map_append]; rfl) | (rw [if_neg (by simp [c3]), List.append_nil]))) SubO.nil) rfl rfl (noL' (noL hL) _)
      try simp only[↓cqA,cqB]at c2
      refine qQ (qn (qn (qX ?_))); refine qa (qd (qd3 (qa4 (l := 5) E zD (noL hL _) E E) (qb (zX E (zX E (zK ?_)))))); refine qo (zI hL (qh E qi) ?_ ?_)
      · rfl
      first
      | exact ⟨rfl, rfl⟩
      | exact ⟨by rw [List.take_of_length_le (by omega)]; rfl, rfl⟩
theorem rall_ok (v h : List ByteArray) (hv : v.length ≤ 1000000) (hh : h.length ≤ 1000000) : PF 54 [.dat false 1 (qbw v), .dat false 1 (qbw h)] (bv (allS v h)) := by
 have lv := qaX v
 refine qF Tryz.func54 E Tryz.ntmps54 zL fun c hL hQ hDD => (qd (qb (zX E (zK (qd (qd ?_)))))); refine qb (zX E (qc (qa (qv (q6 (v.length) (fun k => k ≤ v.length ∧ ∀ x ∈ v.take k, hasS h x = true) (fun k => ⟨[(0, .dat false 1 (qbw v)), (1, .dat false 1 (qbw h)), (5, iv (k : Int))], []⟩) (⟨by omega, fun x hx => by simp at hx⟩) ?_ (fun k hk hp => ?_))))))
 ·exact zR hL (zC E (zC E (zC E SubT.nil))) SubO.nil
 refine qd (qd (qb (zX E (zX E (zA E (qu E qag E) (zA E (qj E E E E) (qc ?_))))))); refine qa (qq E (fun c0 => ?_) (fun c0 => ?_))
 ·try simp only[↓cqA,cqB]at c0
  obtain ⟨u, hu⟩ := qH (l := v) (k := k) (by omega)
  refine qr (qa (qd (qv (qd (qb (zX E (zX E ?_))))))); refine zX E (zA E (qp E qag E E (by omega) (qcb hu)) (zA E (qN E qaf E) (qE (avs := [_, _]) true E E E zD qdK E E (HasS_ok h (by omega) u) E E (zA E (qal E E) (zK (qq E (fun c1 => ?_) (fun c1 => ?_)))))))
  ·try simp only[↓cqA,cqB]at c1
   refine qd (qb (zX E (zK (qo (qS (qm (qm (qS (qm (zI hL (qh E qi) ?_ ?_))))))))))
   ·rfl
   exact ⟨qT (by symm; rw [allS, List.all_eq_false]; exact ⟨u, List.mem_of_getElem? hu, by rw [c1]; exact Bool.noConfusion⟩), rfl⟩
  try simp only[↓cqA,cqB]at c1
  refine qr (qP (qa (qb (zX E (zA E (qJ E E E (by omega)) (zX E (qc ?_))))))); refine qa ?_; refine ⟨?_, ?_, ?_⟩
  ·omega
  ·refine ⟨by omega, fun x hx => ?_⟩
   rw [qac hu] at hx
   rcases List.mem_append.1 hx with hx | hx
   ·exact hp.2 x hx
   ·rw [List.mem_singleton.1 hx]; exact c1
  exact zR hL (zC E (zC E (zC E SubT.nil))) SubO.nil
 try simp only[↓cqA,cqB]at c0
 refine qQ (qn (qn (qX ?_))); refine qa (qd (qb (zX E (zK (qo (zI hL (qh E qi) ?_ ?_))))))
 ·rfl
 exact ⟨qT (by symm; rw [allS, List.all_eq_true]; have h1 := hp.2; rw [List.take_of_length_le (by omega)] at h1; exact h1), rfl⟩
theorem okG_lR {g : Gd} (h : okG g = true) : mayT g.l = true := by
 simp only [okG, cmpsB, Bool.or_eq_true, Bool.and_eq_true, decide_eq_true_eq] at h
 rcases h with h | h
 ·exact h.1.2
 ·exact h.1.2.1
theorem okG_rR {g : Gd} (h : okG g = true) (hk : g.kind ≤ 4) : mayT g.r = true := by
 simp only [okG, cmpsB, Bool.or_eq_true, Bool.and_eq_true, decide_eq_true_eq] at h
 rcases h with h | h
 ·exact h.2
 ·omega
theorem okR_parts {r : Rl} (h : okR r = true) : mayT r.head = true ∧ r.head.kind = 3 ∧ okP r.body = true ∧ (r.g.length ≤ 4 ∧ ∀ g ∈ r.g, okG g = true) ∧ (0 ≤ r.within ∧ r.within ≤ 1073741824) ∧ 0 ≤ r.policy ∧ r.policy ≤ 2 := by
 simp only [okR, okGs, Bool.and_eq_true, decide_eq_true_eq, List.all_eq_true] at h
 obtain ⟨⟨⟨⟨⟨⟨⟨h1, h2⟩, h3⟩, h4⟩, h5⟩, h6⟩, h7⟩, h8⟩ := h
 exact ⟨h2, h1, h3, h4, ⟨h5, h6⟩, h7, h8⟩
theorem rRule10_ok (D : Nat) (r : Rl) (hr : r.wf) (hd : dlP D r.body) (hg : ∀ g ∈ r.g, dle 30 g.r) : PF 19 [rlA r] (iv (ruleE r)) := by
  by_cases hok : okR r = true
  case neg =>
    have e : ruleE r = 1 := by rw [ruleE, if_neg hok]
    rw [e]
    have hok2 : okR r = false := by simpa using hok
    refine qF Tryz.func19 E Tryz.ntmps19 zL fun c hL hQ hDD => (qd (qb (qy E E zD (qaa 1 E E E) E (zX E (zK (qd ?_)))))); refine qd (qb (zA E (qK E qca E E E E) (qE (avs := [_]) true E E E zD en_almagestref4_Rule E E (rRule_ok D r hr hd hg) E E (zA E (qal E E) (zK (qq E (fun c0 => ?_) (fun c0 => ?_)))))))
    · try simp only[↓cqA,cqB]at c0
      refine qd (qb (zX E (zK (qo (qm (zI hL (qh E qi) ?_ ?_))))))
      · rfl
      exact ⟨rfl, rfl⟩
    try simp only[↓cqA,cqB]at c0
    rw [hok2] at c0; cases c0
  obtain ⟨hm, hk3, hP, ⟨hg4, hgo⟩, _⟩ := okR_parts hok
  obtain ⟨hhw, hbw, ⟨hgl, hgw⟩, _⟩ := id hr
  have hpb := ((okP_iff r.body).1 hP).1
  have hbl := boundP_len 8 r.body hpb
  have h256 : 25 * 2 ^ 8 = 6400 := by decide
  have hlg := gdDs_length r.g
  have hla := qaJ r.head.args
  have hal := hhw.2.2.2.1
  have haw := hhw.2.2.2.2
  have hbadE : gdsS r.g (qbJ 8 r.body) = none → ruleE r = 6 := fun h => by rw [ruleE, if_pos hok, h]
  have hgoodE : ∀ h, gdsS r.g (qbJ 8 r.body) = some h → ruleE r = if r.head.args.all (argS h) = true then 0 else 6 := fun h e => by rw [ruleE, if_pos hok, e]
  refine qF Tryz.func19 E Tryz.ntmps19 zL fun c hL hQ hDD => (qd (qb (qy E E zD (qaa 1 E E E) E (zX E (zK (qd ?_)))))); refine qd (qb (zA E (qK E qca E E E E) (qE (avs := [_]) true E E E zD en_almagestref4_Rule E E (rRule_ok D r hr hd hg) E E (zA E (qal E E) (zK (qq E (fun c0 => ?_) (fun c0 => ?_)))))))
  · try simp only[↓cqA,cqB]at c0
    rw [hok] at c0; cases c0
  try simp only[↓cqA,cqB]at c0
  refine qr (qa (qd (qb (zA E (qe E qdn E) (zA E (ql E qad E E E E E) ?_)))))
  refine qE (avs := [_]) true E E E zD qcZ E E (bound_ok 8 (by omega) r.body hbw hpb) E E (zX E (zK (qd (qd (qb (zX E ?_)))))); refine qc (qa (qv (qdq (α := List ByteArray) (r.g.length) (fun i h => i ≤ r.g.length ∧ gdsS (r.g.take i) (qbJ 8 r.body) = some h) (fun i h => ⟨[(1, .ptr 1 0), (3, .dat true 1 (qbw h)), (4, iv (i : Int))], [(1, .box (lift false (rlD r)))]⟩) (qbJ 8 r.body) (⟨by omega, rfl⟩) ?_ (fun i h hi hpi => ?_))))
  · exact zR hL (zC E (zC E (zC E SubT.nil))) (SubO.cons (qR E (by rfl)) SubO.nil)
  have hhl := gdsS_len (r.g.take i) _ h (fun g hg => hgo g (List.mem_of_mem_take hg)) hpi.2
  have hlt : (r.g.take i).length ≤ 4 := by rw [List.length_take]; omega
  have hls := qaX h
  refine qd (qd (qb (zX E (zA E (qe E qdW E) (zA E (ql E qdz E E E E E) (zA E (qu E qa8 E) (zA E (qj E E E E) ?_))))))); refine zK (qq E (fun c1 => ?_) (fun c1 => ?_))
  · try simp only[↓cqA,cqB]at c1
    obtain ⟨g, hgi⟩ := qH (l := r.g) (k := i) (by omega)
    have hgm := List.mem_of_getElem? hgi
    have hgok := hgo g hgm
    have hgwf := hgw g hgm
    have hgtk := gdsS_take hgi (qbJ 8 r.body)
    rw [hpi.2, Option.bind_some] at hgtk
    have hvl := varsR_len25 (okG_lR hgok)
    have hgl1 := hgwf.2.1
    have hgr1 := hgwf.2.2
    have hvb : (if g.kind ≤ 4 then qaM (qb0 5 g.l) (qb0 5 g.r) else qb0 5 g.l).length ≤ 1000000 := by
      split
      · have h1 := namesR_len (qb0 5 g.r) (qb0 5 g.l)
        have h2 := varsR_len25 (okG_rR hgok (by assumption))
        omega
      · omega
    refine qr (qa (qd (qv (qd (qb (zA E (qe E qdW E) (zA E (ql E qdz E E E E E) ?_))))))); refine zX E (zA E (qp E qa8 E E (by omega) (gdDs_get hgi)) (zA E (qC E qcl E E) (qy E E zD (qaD 5 E zv_api_Guard E) E (qae E E E qcl E E E E E E E E E (zK (qd (qb (zA E (qe E qb7 E) (zA E (ql E qw E E E E E) ?_)))))))))
    refine qE (avs := [_]) true E E E zD qbZ E E (rVars5_ok g.l hgl1 (okG_lR hgok)) E E (zX E (zK (qd (qd (qb (zA E (qe E qb8 E) ?_)))))); refine zA E (ql E qU E E E E E) (zA E (qj E E E E) (zK (qq E (fun c2 => ?_) (fun c2 => ?_))))
    · try simp only[↓cqA,cqB]at c2
      refine qd (qb (zX E (zX E (qE (avs := [_, _]) true E E E zD qcv E E (rNames_ok h (qb0 5 g.l) (by omega)) E E (zX E ?_)))))
      refine zK (qQ (qn (qX ?_))); refine qa (qb (zX E (zA E (qJ E E E (by omega)) (zX E (zK ?_))))); refine ⟨?_, ((gdS h g).getD []), ?_, ?_⟩
      · omega
      · refine ⟨by omega, ?_⟩
        rw [hgtk]
        first | (rw [hgs]; rfl) | (rw [show gdS h g = some (qaM h (qb0 5 g.l)) by rw [gdS, if_pos (by assumption)]]; rfl)
      exact zR hL (zC E (SubT.cons (qan E (by first | (rw [hgs]; rfl) | (rw [show gdS h g = some (qaM h (qb0 5 g.l)) by rw [gdS, if_pos (by assumption)]]; rfl))) (zC E SubT.nil))) (SubO.cons (qR E (by rfl)) SubO.nil)
    try simp only[↓cqA,cqB]at c2
    refine qr (qa (qcN ⟨[(1, .ptr 1 0), (3, .dat true 1 (qbw h)), (4, iv (i : Int)), (6, .dat true 1 (qbw (if g.kind ≤ 4 then qaM (qb0 5 g.l) (qb0 5 g.r) else qb0 5 g.l)))], [(1, .box (lift false (rlD r)))]⟩ ?_ ?_))
    · refine qd (qb (zA E (qe E qb8 E) (zA E (ql E qU E E E E E) (zA E (qj E E E E) (zK (qq E (fun c3 => ?_) (fun c3 => ?_)))))))
      · try simp only[↓cqA,cqB]at c3
        have hvr := varsR_len25 (okG_rR hgok (by assumption))
        refine qb (zX E (zA E (qe E qcA E) (zA E (ql E qw E E E E E) (qE (avs := [_]) true E E E zD qbZ E E (rVars5_ok g.r hgr1 (okG_rR hgok (by assumption))) E E (qE (avs := [_, _]) true E E E zD qcv E E (rNames_ok (qb0 5 g.l) (qb0 5 g.r) (by omega)) E E (zX E (qc ?_)))))))
        exact qai (qB (zC E (zC E (zC E (SubT.cons (qan E (by first | (rw [if_pos (show g.kind ≤ 4 by assumption)]; done) | (rw [if_neg (show ¬ g.kind ≤ 4 by omega)]; done) | (rw [if_pos (show g.kind ≤ 4 by assumption)]; rfl) | (rw [if_neg (show ¬ g.kind ≤ 4 by omega)]; rfl))) SubT.nil)))) (SubO.cons (qR E (by rfl)) SubO.nil) E E (noL' (noL hL) _))
      try simp only[↓cqA,cqB]at c3
      refine qr ?_
      exact qai (qB (zC E (zC E (zC E (SubT.cons (qan E (by first | (rw [if_pos (show g.kind ≤ 4 by assumption)]; done) | (rw [if_neg (show ¬ g.kind ≤ 4 by omega)]; done) | (rw [if_pos (show g.kind ≤ 4 by assumption)]; rfl) | (rw [if_neg (show ¬ g.kind ≤ 4 by omega)]; rfl))) SubT.nil)))) (SubO.cons (qR E (by rfl)) SubO.nil) E E (noL' (noL hL) _))
    refine qd (qb (zX E (zX E (qE (avs := [_, _]) true E E E zD en_almagestref10_all E E (rall_ok (if g.kind ≤ 4 then qaM (qb0 5 g.l) (qb0 5 g.r) else qb0 5 g.l) h hvb (by omega)) E E (zA E (qal E E) (zK ?_)))))); refine qq E (fun c4 => ?_) (fun c4 => ?_)
    · try simp only[↓cqA,cqB]at c4
      have hgs : gdS h g = none := by rw [gdS, if_neg (by assumption), if_neg (by rw [show allS (if g.kind ≤ 4 then qaM (qb0 5 g.l) (qb0 5 g.r) else qb0 5 g.l) h = false by assumption]; exact Bool.noConfusion)]
      have hbad : ruleE r = 6 := by
        exact hbadE (gdsS_stop r.g _ (i + 1) (by rw [hgtk, hgs]))
      refine qd (qb (zX E (zK (qo (qS (qm (qm (qS (qm (zI hL (qh E qi) ?_ ?_))))))))))
      · rfl
      first
      | exact ⟨qa2 hbad.symm, rfl⟩
      | (have hh : r.head.args.all (argS h) = true := List.all_eq_true.2 (by have h1 := hpj.2; rw [List.take_of_length_le (by omega)] at h1; exact h1)
         rw [if_pos hh] at hE
         exact ⟨qa2 hE.symm, rfl⟩)
      | (have harg : argS h a = false := by
           rw [argS]
           first | (rw [if_pos (show a.kind = 1 by assumption)]; assumption) | (rw [if_neg (show ¬ a.kind = 1 by assumption)]; assumption)
         have hbad : ruleE r = 6 := by
           rw [hE, if_neg]
           intro hh
           rw [List.all_eq_true] at hh
           rw [hh a ham] at harg; cases harg
         exact ⟨qa2 hbad.symm, rfl⟩)
      | trace_state
    try simp only[↓cqA,cqB]at c4
    have hgs : gdS h g = some h := by rw [gdS, if_neg (by assumption), if_pos (by assumption)]
    refine qr (qP (qa (qb (zX E (zA E (qJ E E E (by omega)) (zX E (qc ?_))))))); refine qa ?_; refine ⟨?_, ((gdS h g).getD []), ?_, ?_⟩
    · omega
    · refine ⟨by omega, ?_⟩
      rw [hgtk]
      first | (rw [hgs]; rfl) | (rw [show gdS h g = some (qaM h (qb0 5 g.l)) by rw [gdS, if_pos (by assumption)]]; rfl)
    exact zR hL (zC E (SubT.cons (qan E (by first | (rw [hgs]; rfl) | (rw [show gdS h g = some (qaM h (qb0 5 g.l)) by rw [gdS, if_pos (by assumption)]]; rfl))) (zC E SubT.nil))) (SubO.cons (qR E (by rfl)) SubO.nil)
  try simp only[↓cqA,cqB]at c1
  have hfin : gdsS r.g (qbJ 8 r.body) = some h := by
    have h2 := hpi.2
    rw [List.take_of_length_le (by omega)] at h2
    exact h2
  have hE := hgoodE h hfin
  refine qQ (qn (qn (qX ?_))); refine qa (qd (qd (qb (zX E (zK (qv ?_)))))); refine q6 (r.head.args.length) (fun j => j ≤ r.head.args.length ∧ ∀ x ∈ r.head.args.take j, argS h x = true) (fun j => ⟨[(1, .ptr 1 0), (3, .dat true 1 (qbw h)), (7, iv (j : Int))], [(1, .box (lift false (rlD r)))]⟩) (⟨by omega, fun x hx => by simp at hx⟩) ?_ (fun j hj hpj => ?_)
  · exact zR hL (zC E (zC E (zC E SubT.nil))) (SubO.cons (qR E (by rfl)) SubO.nil)
  refine qd (qd (qb (zX E (zA E (qe E qcs E) (zA E (qe E q8 E) (zA E (ql E q7 E E E E E) (zA E (qu E qI E) (zA E (qj E E E E) (zK (qq E (fun c5 => ?_) (fun c5 => ?_)))))))))))
  · try simp only[↓cqA,cqB]at c5
    obtain ⟨a, ha⟩ := qH (l := r.head.args) (k := j) (by omega)
    have ham := List.mem_of_getElem? ha
    have hamay := may_arg hm ham
    have hawf := Tm.wfs_mem haw ham
    refine qr (qa (qd (qv (qd (qb (zA E (qe E qcs E) (zA E (qe E q8 E) ?_))))))); refine zA E (ql E q7 E E E E E) (zX E (zA E (qp E qI E E (by omega) (qbv ha)) ?_))
    refine zA E (qC E qw E E) (qy E E zD (qaD 8 E qaw E) E (qae E E E qw E E E E E E E E E (zK (qd (qb (zA E (qe E qar E) ?_)))))); refine zA E (ql E qU E E E E E) (zA E (qj E E E E) (zX E (qt 65 E (fun g65 => ?_) (fun g65 => ?_))))
    · try simp only[↓cqA,cqB]at g65
      refine zZ E (qk (.inl E) E) (zZ E (qe E qav E) (zZ E (ql E qaf E E E E E) (zZ E (qY (avs := [_, _]) true E qdK E E (HasS_ok h (by omega) a.name) (fun _ => rfl) E) (zZ E (qal E E) (zA E (qg E E E) (zX E (qt 72 E (fun g72 => ?_) (fun g72 => ?_))))))))
      · try simp only[↓cqA,cqB]at g72
        refine zY E (zY E (zY E (zY E (qaE E E E zD E zD (qaE E E E zD E zD ?_)))))
        refine qaE E E E zD E zD (zY E (zA E (qg E E E) (zK (qaN E (qd (qb ?_)))))); refine zX E (zK (qo (qS (qm (qm (qS (qm (zI hL (qh E qi) ?_ ?_))))))))
        · rfl
        first
        | exact ⟨qa2 hbad.symm, rfl⟩
        | (have hh : r.head.args.all (argS h) = true := List.all_eq_true.2 (by have h1 := hpj.2; rw [List.take_of_length_le (by omega)] at h1; exact h1)
           rw [if_pos hh] at hE
           exact ⟨qa2 hE.symm, rfl⟩)
        | (have harg : argS h a = false := by
             rw [argS]
             first | (rw [if_pos (show a.kind = 1 by assumption)]; assumption) | (rw [if_neg (show ¬ a.kind = 1 by assumption)]; assumption)
           have hbad : ruleE r = 6 := by
             rw [hE, if_neg]
             intro hh
             rw [List.all_eq_true] at hh
             rw [hh a ham] at harg; cases harg
           exact ⟨qa2 hbad.symm, rfl⟩)
        | trace_state
      try simp only[↓cqA,cqB]at g72
      refine zZ E (qe E qar E) (zZ E (ql E qU E E E E E) (zZ E (qj E E E E) (zZ E (qk (.inl E) E) (qt 76 E (fun g76 => ?_) (fun g76 => ?_)))))
      · try simp only[↓cqA,cqB]at g76
        refine zZ E (qK E qw E E E E) (zZ E (qY (avs := [_]) true E qcY E E (rGround_ok a hawf hamay) (fun _ => rfl) E) (zZ E (qal E E) (zZ E (qg E E E) (zA E (qg E E E) (zK (qq E (fun c6 => ?_) (fun c6 => ?_)))))))
        · try simp only[↓cqA,cqB]at c6
          refine qd (qb (zX E (zK (qo (qS (qm (qm (qS (qm (zI hL (qh E qi) ?_ ?_))))))))))
          · rfl
          first
          | exact ⟨qa2 hbad.symm, rfl⟩
          | (have hh : r.head.args.all (argS h) = true := List.all_eq_true.2 (by have h1 := hpj.2; rw [List.take_of_length_le (by omega)] at h1; exact h1)
             rw [if_pos hh] at hE
             exact ⟨qa2 hE.symm, rfl⟩)
          | (have harg : argS h a = false := by
               rw [argS]
               first | (rw [if_pos (show a.kind = 1 by assumption)]; assumption) | (rw [if_neg (show ¬ a.kind = 1 by assumption)]; assumption)
             have hbad : ruleE r = 6 := by
               rw [hE, if_neg]
               intro hh
               rw [List.all_eq_true] at hh
               rw [hh a ham] at harg; cases harg
             exact ⟨qa2 hbad.symm, rfl⟩)
          | trace_state
        try simp only[↓cqA,cqB]at c6
        refine qr (qP (qa (qb (zX E (zA E (qJ E E E (by omega)) (zX E (qc ?_))))))); refine qa ?_; refine ⟨?_, ?_, ?_⟩
        · omega
        · refine ⟨by omega, fun x hx => ?_⟩
          rw [qac ha] at hx
          rcases List.mem_append.1 hx with hx | hx
          · exact hpj.2 x hx
          · rw [List.mem_singleton.1 hx]; simp_all [argS]
        exact zR hL (zC E (zC E (zC E SubT.nil))) (SubO.cons (qR E (by rfl)) SubO.nil)
      try simp only[↓cqA,cqB]at g76
      refine zY E (zY E (zY E (zZ E (qg E E E) (zA E (qg E E E) (zK ?_)))))
      refine qab E (qr (qP (qa (qb (zX E (zA E (qJ E E E (by omega)) (zX E ?_))))))); refine zK ?_; refine ⟨?_, ?_, ?_⟩
      · omega
      · refine ⟨by omega, fun x hx => ?_⟩
        rw [qac ha] at hx
        rcases List.mem_append.1 hx with hx | hx
        · exact hpj.2 x hx
        · rw [List.mem_singleton.1 hx]; simp_all [argS]
      exact zR hL (zC E (zC E (zC E SubT.nil))) (SubO.cons (qR E (by rfl)) SubO.nil)
    try simp only[↓cqA,cqB]at g65
    refine zY E (zY E (zY E (zY E (zY E (zA E (qg E E E) (zX E (zZ E (qe E qar E) (zZ E (ql E qU E E E E E) (zZ E (qj E E E E) (zZ E (qk (.inl E) E) (qt 76 E (fun g76 => ?_) (fun g76 => ?_))))))))))))
    · try simp only[↓cqA,cqB]at g76
      refine zZ E (qK E qw E E E E) (zZ E (qY (avs := [_]) true E qcY E E (rGround_ok a hawf hamay) (fun _ => rfl) E) (zZ E (qal E E) (zZ E (qg E E E) (zA E (qg E E E) (zK (qq E (fun c6 => ?_) (fun c6 => ?_)))))))
      · try simp only[↓cqA,cqB]at c6
        refine qd (qb (zX E (zK (qo (qS (qm (qm (qS (qm (zI hL (qh E qi) ?_ ?_))))))))))
        · rfl
        first
        | exact ⟨qa2 hbad.symm, rfl⟩
        | (have hh : r.head.args.all (argS h) = true := List.all_eq_true.2 (by have h1 := hpj.2; rw [List.take_of_length_le (by omega)] at h1; exact h1)
           rw [if_pos hh] at hE
           exact ⟨qa2 hE.symm, rfl⟩)
        | (have harg : argS h a = false := by
             rw [argS]
             first | (rw [if_pos (show a.kind = 1 by assumption)]; assumption) | (rw [if_neg (show ¬ a.kind = 1 by assumption)]; assumption)
           have hbad : ruleE r = 6 := by
             rw [hE, if_neg]
             intro hh
             rw [List.all_eq_true] at hh
             rw [hh a ham] at harg; cases harg
           exact ⟨qa2 hbad.symm, rfl⟩)
        | trace_state
      try simp only[↓cqA,cqB]at c6
      refine qr (qP (qa (qb (zX E (zA E (qJ E E E (by omega)) (zX E (qc ?_))))))); refine qa ?_; refine ⟨?_, ?_, ?_⟩
      · omega
      · refine ⟨by omega, fun x hx => ?_⟩
        rw [qac ha] at hx
        rcases List.mem_append.1 hx with hx | hx
        · exact hpj.2 x hx
        · rw [List.mem_singleton.1 hx]; simp_all [argS]
      exact zR hL (zC E (zC E (zC E SubT.nil))) (SubO.cons (qR E (by rfl)) SubO.nil)
    try simp only[↓cqA,cqB]at g76
    refine zY E (zY E (zY E (zZ E (qg E E E) (zA E (qg E E E) (zK ?_)))))
    refine qab E (qr (qP (qa (qb (zX E (zA E (qJ E E E (by omega)) (zX E ?_))))))); refine zK ?_; refine ⟨?_, ?_, ?_⟩
    · omega
    · refine ⟨by omega, fun x hx => ?_⟩
      rw [qac ha] at hx
      rcases List.mem_append.1 hx with hx | hx
      · exact hpj.2 x hx
      · rw [List.mem_singleton.1 hx]; simp_all [argS]
    exact zR hL (zC E (zC E (zC E SubT.nil))) (SubO.cons (qR E (by rfl)) SubO.nil)
  try simp only[↓cqA,cqB]at c5
  refine qQ (qn (qn (qX ?_))); refine qa (qd (qb (zX E (zK (qo (zI hL (qh E qi) ?_ ?_))))))
  · rfl
  first
  | exact ⟨qa2 hbad.symm, rfl⟩
  | (have hh : r.head.args.all (argS h) = true := List.all_eq_true.2 (by have h1 := hpj.2; rw [List.take_of_length_le (by omega)] at h1; exact h1)
     rw [if_pos hh] at hE
     exact ⟨qa2 hE.symm, rfl⟩)
  | (have harg : argS h a = false := by
       rw [argS]
       first | (rw [if_pos (show a.kind = 1 by assumption)]; assumption) | (rw [if_neg (show ¬ a.kind = 1 by assumption)]; assumption)
     have hbad : ruleE r = 6 := by
       rw [hE, if_neg]
       intro hh
       rw [List.all_eq_true] at hh
       rw [hh a ham] at harg; cases harg
     exact ⟨qa2 hbad.symm, rfl⟩)
  | trace_state
theorem Pt.wf_mem {l : List Pt} (h : Pt.wfs l) {u : Pt} (hu : u ∈ l) : u.wf := Pt.wfs_iff.1 h u hu
theorem PatternWeight_ok : ∀ (d : Nat), d ≤ 30 → ∀ (e : Int), e = d → ∀ t : Pt, t.wf → PF 76 [ptA false t, iv e] (iv (wgtP d t)) := by
  intro d
  induction d with
  | zero =>
    intro hd e he t ht
    have htw := ht.2.1
    have hwr := qbL t.t htw
    refine qF Tryz.func76 E Tryz.ntmps76 zL fun c hL hQ hDD => (qd (qb (qy E E zD (qaa 2 E E E) E (zX E (zK (qd ?_)))))); refine qb (zA E (qe E qbo E) (zA E (ql E qw E E E E E) (qE (avs := [_, _]) true E E E zD qaI E E (qbU t.t htw) E E (zA E (qJ E E E (by omega)) (zX E (zK (qd (qd (qb (zX E (zA E (qj E E E E) (zK (qq E (fun c0 => ?_) (fun c0 => ?_))))))))))))))
    · try simp only[↓cqA,cqB]at c0
      refine qd (qb (zX E (zK (qo (qm (zI hL (qh E qi) ?_ ?_))))))
      · rfl
      exact ⟨rfl, rfl⟩
    try simp only[↓cqA,cqB]at c0
    omega
  | succ d ih =>
    intro hd e he t ht
    have htw := ht.2.1
    have hwr := qbL t.t htw
    obtain ⟨hlL, hwL⟩ := ht.2.2.2.1
    obtain ⟨hlR, hwR⟩ := ht.2.2.2.2.1
    obtain ⟨hlC, hwC⟩ := ht.2.2.2.2.2
    simp only [qba] at hlL hlR hlC
    have hdl := qaW t.l
    have hdr := qaW t.r
    have hdc := qaW t.c
    have hB : (1048576 : Int) ≤ 4362862138900001 + 1048576 * d := by omega
    have hA1 := wgtL_top (wgtP d) (4362862138900001 + 1048576 * d) hB (1 + wT t.t) t.l (fun u hu => wgtP_le d u (Pt.wf_mem hwL hu)) (by omega)
    have hA2 := wgtL_top (wgtP d) (4362862138900001 + 1048576 * d) hB (wgtL (wgtP d) (1 + wT t.t) t.l) t.r (fun u hu => wgtP_le d u (Pt.wf_mem hwR hu)) hA1
    have hG1 := qbr (wgtP d) (1 + wT t.t) t.l (fun u hu => qdG d u (Pt.wf_mem hwL hu))
    have hG2 := qbr (wgtP d) (wgtL (wgtP d) (1 + wT t.t) t.l) t.r (fun u hu => qdG d u (Pt.wf_mem hwR hu))
    refine qF Tryz.func76 E Tryz.ntmps76 zL fun c hL hQ hDD => (qd (qb (qy E E zD (qaa 2 E E E) E (zX E (zK (qd ?_)))))); refine qb (zA E (qe E qbo E) (zA E (ql E qw E E E E E) (qE (avs := [_, _]) true E E E zD qaI E E (qbU t.t htw) E E (zA E (qJ E E E (by omega)) (zX E (zK (qd (qd (qb (zX E (zA E (qj E E E E) (zK (qq E (fun c0 => ?_) (fun c0 => ?_))))))))))))))
    · try simp only[↓cqA,cqB]at c0
      omega
    try simp only[↓cqA,cqB]at c0
    refine qr (qa (qcN ⟨[(1, iv e), (2, .ptr 2 0), (5, iv (wgtL (wgtP d) (1 + wT t.t) t.l))], [(2, .box (lift false (ptD t)))]⟩ ?_ ?_))
    · refine qd (qb (zX E (zK (qv (q6 (t.l.length) (fun k => k ≤ t.l.length ∧ ∀ j, j < k → wgtL (wgtP d) (1 + wT t.t) (t.l.take j) < 1048576) (fun k => ⟨[(1, iv e), (2, .ptr 2 0), (5, iv (wgtL (wgtP d) (1 + wT t.t) (t.l.take k))), (6, iv (k : Int))], [(2, .box (lift false (ptD t)))]⟩) (⟨by omega, fun j hj => absurd hj (by omega)⟩) ?_ (fun k hk hp => ?_))))))
      · exact zR hL (zC E (zC E (SubT.cons (qan E (by exact qL (by rw [List.take_zero, wgtL]))) (zC rfl SubT.nil)))) (SubO.cons (qR rfl (by rfl)) SubO.nil)
      have hw : wgtL (wgtP d) (1 + wT t.t) (t.l.take k) ≤ 1048576 + (4362862138900001 + 1048576 * d) := wgtL_top (wgtP d) _ (by omega) _ _ (fun u hu => wgtP_le d u (Pt.wf_mem hwL (List.mem_of_mem_take hu))) (by omega)
      have hw0 := qbr (wgtP d) (1 + wT t.t) (t.l.take k) (fun u hu => qdG d u (Pt.wf_mem hwL (List.mem_of_mem_take hu)))
      refine qd (qd (qb (zX E (zA E (qe E qaQ E) (zA E (ql E qM E E E E E) (zA E (qu E qG E) (zA E (qj E E E E) ?_))))))); refine zX E (qt 20 E (fun g20 => ?_) (fun g20 => ?_))
      · try simp only[↓cqA,cqB]at g20
        obtain ⟨u, hu⟩ := qH (l := t.l) (k := k) (by omega)
        have huf := Pt.wf_mem hwL (List.mem_of_getElem? hu)
        have huw := wgtP_le d u huf
        have huw0 := qdG d u huf
        refine zZ E (qk (.inl E) E) (zZ E (qj E E E E) (zA E (qg E E E) (zK (qq E (fun c1 => ?_) (fun c1 => ?_)))))
        · try simp only[↓cqA,cqB]at c1
          refine qr (qa (qd (qv (qb (zX E (zA E (qe E qaQ E) (zA E (ql E qM E E E E E) ?_))))))); refine zX E (zA E (qp E qG E E (by omega) (qbN hu)) (zA E (qC E qad E E) (zX E (zA E (qa0 E E E (by omega)) (qE (avs := [_, _]) true E E E zD qbf E E (ih (by omega) (e - 1) (by omega) u huf) E E (zA E (qJ E E E (by omega)) ?_))))))
          refine zX E (qc (qP (qa (qb (zX E (zA E (qJ E E E (by omega)) (zX E ?_))))))); refine qc ?_
          have hb := qc7 (wgtP d) (1 + wT t.t) (t.l.take k) u (fun j hj => by
            by_cases hjk : j < k
            · have := hp.2 j hjk; rwa [List.take_take, Nat.min_eq_left (by omega)]
            · rw [List.take_of_length_le (by simp; omega)]; omega)
          rw [← qac hu] at hb
          refine qa ?_; refine ⟨?_, ?_, ?_⟩
          · omega
          · refine ⟨by omega, fun j hj => ?_⟩
            by_cases hjk : j < k
            · exact hp.2 j hjk
            · rw [show j = k by omega]; omega
          exact zR hL (zC E (zC E (SubT.cons (qan E (by exact qL hb.symm)) (zC E SubT.nil)))) (SubO.cons (qR E (by rfl)) SubO.nil)
        try simp only[↓cqA,cqB]at c1
        have hfin : wgtL (wgtP d) (1 + wT t.t) (t.l.take k) = wgtL (wgtP d) (1 + wT t.t) t.l := ((qcO (wgtP d) _ _ k hp.1 hp.2).trans (qc6 _ _ _ (by omega))).symm
        refine qQ (qn (qn (qX ?_)))
        exact qai (qB (zC E (zC E (SubT.cons (qan E (by exact qL (by rw [hfin]))) SubT.nil))) (SubO.cons (qR rfl (by rfl)) SubO.nil) E E (noL' (noL hL) _))
      try simp only[↓cqA,cqB]at g20
      have hfin : wgtL (wgtP d) (1 + wT t.t) (t.l.take k) = wgtL (wgtP d) (1 + wT t.t) t.l := by rw [List.take_of_length_le (by omega)]
      refine zY E (zY E (zA E (qg E E E) (zK (qab E (qQ (qn (qn (qX ?_))))))))
      exact qai (qB (zC E (zC E (SubT.cons (qan E (by exact qL (by rw [hfin]))) SubT.nil))) (SubO.cons (qR rfl (by rfl)) SubO.nil) E E (noL' (noL hL) _))
    refine qcN ⟨[(1, iv e), (2, .ptr 2 0), (5, iv (wgtL (wgtP d) (wgtL (wgtP d) (1 + wT t.t) t.l) t.r))], [(2, .box (lift false (ptD t)))]⟩ ?_ ?_
    · refine qd (qb (zX E (zK (qv (q6 (t.r.length) (fun k => k ≤ t.r.length ∧ ∀ j, j < k → wgtL (wgtP d) (wgtL (wgtP d) (1 + wT t.t) t.l) (t.r.take j) < 1048576) (fun k => ⟨[(1, iv e), (2, .ptr 2 0), (5, iv (wgtL (wgtP d) (wgtL (wgtP d) (1 + wT t.t) t.l) (t.r.take k))), (7, iv (k : Int))], [(2, .box (lift false (ptD t)))]⟩) (⟨by omega, fun j hj => absurd hj (by omega)⟩) ?_ (fun k hk hp => ?_))))))
      · exact zR hL (zC E (zC E (SubT.cons (qan E (by exact qL (by rw [List.take_zero, wgtL]))) (zC rfl SubT.nil)))) (SubO.cons (qR rfl (by rfl)) SubO.nil)
      have hw : wgtL (wgtP d) (wgtL (wgtP d) (1 + wT t.t) t.l) (t.r.take k) ≤ 1048576 + (4362862138900001 + 1048576 * d) := wgtL_top (wgtP d) _ (by omega) _ _ (fun u hu => wgtP_le d u (Pt.wf_mem hwR (List.mem_of_mem_take hu))) (by omega)
      have hw0 := qbr (wgtP d) (wgtL (wgtP d) (1 + wT t.t) t.l) (t.r.take k) (fun u hu => qdG d u (Pt.wf_mem hwR (List.mem_of_mem_take hu)))
      refine qd (qd (qb (zX E (zA E (qe E qaP E) (zA E (ql E qM E E E E E) (zA E (qu E qG E) (zA E (qj E E E E) ?_))))))); refine zX E (qt 41 E (fun g41 => ?_) (fun g41 => ?_))
      · try simp only[↓cqA,cqB]at g41
        obtain ⟨u, hu⟩ := qH (l := t.r) (k := k) (by omega)
        have huf := Pt.wf_mem hwR (List.mem_of_getElem? hu)
        have huw := wgtP_le d u huf
        have huw0 := qdG d u huf
        refine zZ E (qk (.inl E) E) (zZ E (qj E E E E) (zA E (qg E E E) (zK (qq E (fun c2 => ?_) (fun c2 => ?_)))))
        · try simp only[↓cqA,cqB]at c2
          refine qr (qa (qd (qv (qb (zX E (zA E (qe E qaP E) (zA E (ql E qM E E E E E) ?_))))))); refine zX E (zA E (qp E qG E E (by omega) (qbN hu)) (zA E (qC E qad E E) (zX E (zA E (qa0 E E E (by omega)) (qE (avs := [_, _]) true E E E zD qbf E E (ih (by omega) (e - 1) (by omega) u huf) E E (zA E (qJ E E E (by omega)) ?_))))))
          refine zX E (qc (qP (qa (qb (zX E (zA E (qJ E E E (by omega)) (zX E ?_))))))); refine qc ?_
          have hb := qc7 (wgtP d) (wgtL (wgtP d) (1 + wT t.t) t.l) (t.r.take k) u (fun j hj => by
            by_cases hjk : j < k
            · have := hp.2 j hjk; rwa [List.take_take, Nat.min_eq_left (by omega)]
            · rw [List.take_of_length_le (by simp; omega)]; omega)
          rw [← qac hu] at hb
          refine qa ?_; refine ⟨?_, ?_, ?_⟩
          · omega
          · refine ⟨by omega, fun j hj => ?_⟩
            by_cases hjk : j < k
            · exact hp.2 j hjk
            · rw [show j = k by omega]; omega
          exact zR hL (zC E (zC E (SubT.cons (qan E (by exact qL hb.symm)) (zC E SubT.nil)))) (SubO.cons (qR E (by rfl)) SubO.nil)
        try simp only[↓cqA,cqB]at c2
        have hfin : wgtL (wgtP d) (wgtL (wgtP d) (1 + wT t.t) t.l) (t.r.take k) = wgtL (wgtP d) (wgtL (wgtP d) (1 + wT t.t) t.l) t.r := ((qcO (wgtP d) _ _ k hp.1 hp.2).trans (qc6 _ _ _ (by omega))).symm
        refine qQ (qn (qn (qX ?_)))
        exact qai (qB (zC E (zC E (SubT.cons (qan E (by exact qL (by rw [hfin]))) SubT.nil))) (SubO.cons (qR rfl (by rfl)) SubO.nil) E E (noL' (noL hL) _))
      try simp only[↓cqA,cqB]at g41
      have hfin : wgtL (wgtP d) (wgtL (wgtP d) (1 + wT t.t) t.l) (t.r.take k) = wgtL (wgtP d) (wgtL (wgtP d) (1 + wT t.t) t.l) t.r := by rw [List.take_of_length_le (by omega)]
      refine zY E (zY E (zA E (qg E E E) (zK (qab E (qQ (qn (qn (qX ?_))))))))
      exact qai (qB (zC E (zC E (SubT.cons (qan E (by exact qL (by rw [hfin]))) SubT.nil))) (SubO.cons (qR rfl (by rfl)) SubO.nil) E E (noL' (noL hL) _))
    refine qd (qd (qb (zX E (zK (qv (q6 (t.c.length) (fun k => k ≤ t.c.length ∧ ∀ j, j < k → wgtL (wgtP d) (wgtL (wgtP d) (wgtL (wgtP d) (1 + wT t.t) t.l) t.r) (t.c.take j) < 1048576) (fun k => ⟨[(1, iv e), (2, .ptr 2 0), (5, iv (wgtL (wgtP d) (wgtL (wgtP d) (wgtL (wgtP d) (1 + wT t.t) t.l) t.r) (t.c.take k))), (8, iv (k : Int))], [(2, .box (lift false (ptD t)))]⟩) (⟨by omega, fun j hj => absurd hj (by omega)⟩) ?_ (fun k hk hp => ?_)))))))
    · exact zR hL (zC E (zC E (SubT.cons (qan E (by exact qL (by rw [List.take_zero, wgtL]))) (zC rfl SubT.nil)))) (SubO.cons (qR rfl (by rfl)) SubO.nil)
    have hw : wgtL (wgtP d) (wgtL (wgtP d) (wgtL (wgtP d) (1 + wT t.t) t.l) t.r) (t.c.take k) ≤ 1048576 + (4362862138900001 + 1048576 * d) := wgtL_top (wgtP d) _ (by omega) _ _ (fun u hu => wgtP_le d u (Pt.wf_mem hwC (List.mem_of_mem_take hu))) (by omega)
    have hw0 := qbr (wgtP d) (wgtL (wgtP d) (wgtL (wgtP d) (1 + wT t.t) t.l) t.r) (t.c.take k) (fun u hu => qdG d u (Pt.wf_mem hwC (List.mem_of_mem_take hu)))
    refine qd (qd (qb (zX E (zA E (qe E qaK E) (zA E (ql E qM E E E E E) (zA E (qu E qG E) (zA E (qj E E E E) ?_))))))); refine zX E (qt 62 E (fun g62 => ?_) (fun g62 => ?_))
    · try simp only[↓cqA,cqB]at g62
      obtain ⟨u, hu⟩ := qH (l := t.c) (k := k) (by omega)
      have huf := Pt.wf_mem hwC (List.mem_of_getElem? hu)
      have huw := wgtP_le d u huf
      have huw0 := qdG d u huf
      refine zZ E (qk (.inl E) E) (zZ E (qj E E E E) (zA E (qg E E E) (zK (qq E (fun c3 => ?_) (fun c3 => ?_)))))
      · try simp only[↓cqA,cqB]at c3
        refine qr (qa (qd (qv (qb (zX E (zA E (qe E qaK E) (zA E (ql E qM E E E E E) ?_))))))); refine zX E (zA E (qp E qG E E (by omega) (qbN hu)) (zA E (qC E qad E E) (zX E (zA E (qa0 E E E (by omega)) (qE (avs := [_, _]) true E E E zD qbf E E (ih (by omega) (e - 1) (by omega) u huf) E E (zA E (qJ E E E (by omega)) ?_))))))
        refine zX E (qc (qP (qa (qb (zX E (zA E (qJ E E E (by omega)) (zX E ?_))))))); refine qc ?_
        have hb := qc7 (wgtP d) (wgtL (wgtP d) (wgtL (wgtP d) (1 + wT t.t) t.l) t.r) (t.c.take k) u (fun j hj => by
          by_cases hjk : j < k
          · have := hp.2 j hjk; rwa [List.take_take, Nat.min_eq_left (by omega)]
          · rw [List.take_of_length_le (by simp; omega)]; omega)
        rw [← qac hu] at hb
        refine qa ?_; refine ⟨?_, ?_, ?_⟩
        · omega
        · refine ⟨by omega, fun j hj => ?_⟩
          by_cases hjk : j < k
          · exact hp.2 j hjk
          · rw [show j = k by omega]; omega
        exact zR hL (zC E (zC E (SubT.cons (qan E (by exact qL hb.symm)) (zC E SubT.nil)))) (SubO.cons (qR E (by rfl)) SubO.nil)
      try simp only[↓cqA,cqB]at c3
      have hfin : wgtL (wgtP d) (wgtL (wgtP d) (wgtL (wgtP d) (1 + wT t.t) t.l) t.r) (t.c.take k) = wgtL (wgtP d) (wgtL (wgtP d) (wgtL (wgtP d) (1 + wT t.t) t.l) t.r) t.c := ((qcO (wgtP d) _ _ k hp.1 hp.2).trans (qc6 _ _ _ (by omega))).symm
      refine qQ (qn (qn (qX ?_))); refine qa (qd (qb (zX E (zX E (zK (qo (zI hL (qh E qi) ?_ ?_)))))))
      · rfl
      exact ⟨qa2 (by rw [hfin, wgtP]), rfl⟩
    try simp only[↓cqA,cqB]at g62
    have hfin : wgtL (wgtP d) (wgtL (wgtP d) (wgtL (wgtP d) (1 + wT t.t) t.l) t.r) (t.c.take k) = wgtL (wgtP d) (wgtL (wgtP d) (wgtL (wgtP d) (1 + wT t.t) t.l) t.r) t.c := by rw [List.take_of_length_le (by omega)]
    refine zY E (zY E (zA E (qg E E E) (zK (qab E (qQ (qn (qn (qX ?_)))))))); refine qa (qd (qb (zX E (zX E (zK (qo (zI hL (qh E qi) ?_ ?_)))))))
    · rfl
    exact ⟨qa2 (by rw [hfin, wgtP]), rfl⟩
theorem PatternWeight30_ok (p : Pt) (h : p.wf) : PF 76 [ptA false p, iv 30] (iv (wP p)) := PatternWeight_ok 30 (by omega) 30 rfl p h
theorem RuleWeight_ok (r : Rl) (h : r.wf) : PF 49 [rlA r] (iv (wR r)) := by
 obtain ⟨h1, h2, h3, _⟩ := id h
 have r1 := qbL r.head h1
 have r2 := wP_range r.body h2
 have r3 := wGs_range r.g h3.1 h3.2
 refine qF Tryz.func49 E Tryz.ntmps49 zL fun c hL hQ hDD => (qd (qb (qy E E zD (qaa 1 E E E) E (zX E (zK (qd ?_)))))); refine qZ 10 mixed E E E E (qf E zD (.run E (qe E qcs E)) (qf E zD (.run E (ql E qw E E E E E)) (qf E zD (.run E (qY (avs := [_, _]) true E qaI E E (qbU r.head h1) (fun _ => rfl) E)) (qf E zD (.run E (qe E qdn E)) (qf E zD (.run E (ql E qad E E E E E)) (qf E zD (.run E (qY (avs := [_, _]) true E qbf E E (PatternWeight30_ok r.body h2) (fun _ => rfl) E)) (qf E zD (.run E (qJ E E E (by omega))) ?_)))))))
 refine qf E zD (.run E (qe E qdW E)) (qf E zD (.run E (ql E qdz E E E E E)) (qf E zD (.run E (qY (avs := [_]) true E en_almagestlaw0_GuardsWeight E E (GuardsWeight_ok r.g h3.1 h3.2) (fun _ => rfl) E)) (qak ⟨rfl, rfl, ?_⟩))); refine zA E (qJ E E E (by omega)) (zX E (zK (qo (zI hL (qh E qi) ?_ ?_))))
 ·rfl
 exact ⟨rfl, rfl⟩
theorem MatchesWeight_ok (l : List Mt) (hl : qba l) (hw : ∀ m ∈ l, m.wf) : PF 75 [.dat false 4 (mtDs l)] (iv (wMs l)) := by
 have hlen := qau l
 have hF : ∀ u, u ∈ l → 0 ≤ wM u ∧ wM u ≤ 5000000000000000 := fun u hu => wM_range u (hw u hu)
 simp only [qba] at hl
 refine qF Tryz.func75 E Tryz.ntmps75 zL fun c hL hQ hDD => (qd (qb (zX E (zK (qd (qb ?_)))))); refine zX E (zA E (qu E qz E) ?_)
 refine zX E (zK (qd (qd (qb (zX E (qc ?_)))))); refine qa (qv (q6 (l.length) (fun k => k ≤ l.length ∧ ∀ j, j < k → wgtL wM l.length (l.take j) < 1048576) (fun k => ⟨[(0, .dat false 4 (mtDs l)), (3, iv (wgtL wM l.length (l.take k))), (4, iv (k : Int))], []⟩) (⟨by omega, fun j hj => absurd hj (by omega)⟩) ?_ (fun k hk hp => ?_)))
 ·exact zR hL (zC E (SubT.cons (qan E (by exact qL (by simp only [List.take_zero, wgtL]; omega))) (zC E SubT.nil))) SubO.nil
 have hwk := qdH wM 5000000000000000 (by omega) l.length (l.take k) (fun u hu => (hF u (List.mem_of_mem_take hu)).2) (by omega)
 have hw0 := qbr wM l.length (l.take k) (fun u hu => (hF u (List.mem_of_mem_take hu)).1)
 refine qd (qd (qb (zX E (zX E (zA E (qu E qz E) (zA E (qj E E E E) (zX E ?_))))))); refine qt 11 E (fun g11 => ?_) (fun g11 => ?_)
 ·try simp only[↓cqA,cqB]at g11
  obtain ⟨u, hu⟩ := qH (l := l) (k := k) (by omega)
  have hum := List.mem_of_getElem? hu
  have huw := hF u hum
  have hws : wM u = u.u.length + wBs u.b := rfl
  have hut := (hw u hum)
  have hul := qbm u.u
  have hbr := wBs_range u.b hut.1.1 hut.1.2
  refine zZ E (qk (.inl E) E) (zZ E (qj E E E E) (zA E (qg E E E) (zK (qq E (fun c0 => ?_) (fun c0 => ?_)))))
  ·try simp only[↓cqA,cqB]at c0
   refine qr (qa (qd (qv (qZ 14 mixed E E E E (qf E zD (.run E (qk (.inl E) E)) (qf E zD (.run E (qk (.inl E) E)) (qf E zD (.run E (qk (.inl E) E)) ?_))))))); refine qf E zD (.run E (qp E qz E E (by omega) (qa9 hu))) (qf E zD (.run E (qA E qaY E)) (qf E zD (.run E (qN E qbM E)) (qf E zD (.run E (qu E qaL E)) (qf E zD (.run E (qJ E E E (by omega))) (qf E zD (.run E (qk (.inl E) E)) (qf E zD (.run E (qk (.inl E) E)) (qf E zD (.run E (qp E qz E E (by omega) (qa9 hu))) (qf E zD (.run E (qA E qaA E)) ?_))))))))
   refine qf E zD (.run E (qN E qap E)) (qf E zD (.run E (qY (avs := [_]) true E en_almagestlaw0_BindsWeight E E (BindsWeight_ok u.b hut.1.1 hut.1.2) (fun _ => rfl) E)) (qak ⟨rfl, rfl, ?_⟩)); refine zA E (qJ E E E (by omega)) (zX E (qc (qP (qa (qb (zX E (zA E (qJ E E E (by omega)) (zX E (qc ?_)))))))))
   have hb := qc7 wM l.length (l.take k) u (fun j hj => by
    by_cases hjk : j < k
    ·have := hp.2 j hjk; rwa [List.take_take, Nat.min_eq_left (by omega)]
    ·rw [List.take_of_length_le (by simp; omega)]; omega)
   rw [← qac hu] at hb
   refine qa ?_; refine ⟨?_, ?_, ?_⟩
   ·omega
   ·refine ⟨by omega, fun j hj => ?_⟩
    by_cases hjk : j < k
    ·exact hp.2 j hjk
    ·rw [show j = k by omega]; omega
   exact zR hL (zC E (SubT.cons (qan E (by exact qL (by rw [hb]; try omega))) (zC E SubT.nil))) SubO.nil
  try simp only[↓cqA,cqB]at c0
  have hfin : wgtL wM l.length (l.take k) = wgtL wM l.length l := ((qcO wM _ _ k hp.1 hp.2).trans (qc6 _ _ _ (by omega))).symm
  refine qQ (qn (qn (qX ?_))); refine qa (qd (qb (zX E (zX E (zK (qo (zI hL (qh E qi) ?_ ?_)))))))
  ·rfl
  exact ⟨qa2 hfin, rfl⟩
 try simp only[↓cqA,cqB]at g11
 have hfin : wgtL wM l.length (l.take k) = wgtL wM l.length l := by rw [List.take_of_length_le (by omega)]
 refine zY E (zY E (zA E (qg E E E) (zK (qab E (qQ (qn (qn (qX ?_)))))))); refine qa (qd (qb (zX E (zX E (zK (qo (zI hL (qh E qi) ?_ ?_)))))))
 ·rfl
 exact ⟨qa2 hfin, rfl⟩
theorem Heavy13_ok (p : Ask13) (hp : p.wf) : PF 31 [.agg (lift false (a13D p))] (bv (heavy13 p)) := by
 obtain ⟨L, l, N, M⟩ := p
 obtain ⟨⟨hlL, hwL⟩, ⟨hl, hwX⟩, hN, hlM, hwM⟩ := hp
 have hlen := qaW l
 have hlen2 : (ptDs (Ask13.mk L l N M).X).length = l.length := hlen
 have hrL := wKs_range L hlL hwL
 have hrM := wMs_range M hlM hwM
 have hF : ∀ u, u ∈ l → 0 ≤ wP u ∧ wP u ≤ 9800000000000000 := fun u hu => by
  have := wP_range u (Pt.wf_mem hwX hu); omega
 simp only [qba] at hl
 refine qF Tryz.func31 E Tryz.ntmps31 zL fun c hL hQ hDD => (qd (qb (qy E E zD (qaa 1 E E E) E (zX E (zK (qd ?_)))))); refine qZ 10 mixed E E E E (qf E zD (.run E (qe E qcf E)) (qf E zD (.run E (ql E tf_S_api_Kept E E E E E)) (qf E zD (.run E (qY (avs := [_]) true E en_almagestlaw0_KeptsWeight E E (KeptsWeight_ok L hlL hwL) (fun _ => rfl) E)) (qf E zD (.run E (qe E fo_almagestlaw13_Ask_3 E)) (qf E zD (.run E (ql E tf_S_api_Match E E E E E)) (qf E zD (.run E (qY (avs := [_]) true E en_almagestlaw0_MatchesWeight E E (MatchesWeight_ok M hlM hwM) (fun _ => rfl) E)) (qf E zD (.run E (qJ E E E (by omega))) ?_)))))))
 refine qf E zD (.run E (qe E qcX E)) (qf E zD (.run E (ql E qM E E E E E)) (qf E zD (.run E (qu E qG E)) ?_))
 refine qak ⟨rfl, rfl, ?_⟩; refine zA E (qJ E E E (by omega)) (zX E (zK (qd (qd (qb (zX E ?_)))))); refine zK (qv (q6 (l.length) (fun k => k ≤ l.length ∧ ∀ j, j < k → wgtL wP (wKs L + wMs M + l.length) (l.take j) < 1048576) (fun k => ⟨[(1, .ptr 1 0), (3, iv (wgtL wP (wKs L + wMs M + l.length) (l.take k))), (4, iv (k : Int))], [(1, .box (lift false (a13D ⟨L, l, N, M⟩)))]⟩) (⟨by omega, fun j hj => absurd hj (by omega)⟩) ?_ (fun k hk hp => ?_)))
 ·exact zR hL (zC E (SubT.cons (qan E (by exact qL (by simp only [List.take_zero, wgtL]; omega))) (zC E SubT.nil))) (SubO.cons (qR E (by rfl)) SubO.nil)
 have hwk := qdH wP 9800000000000000 (by omega) (wKs L + wMs M + l.length) (l.take k) (fun u hu => (hF u (List.mem_of_mem_take hu)).2) (by omega)
 have hw0 := qbr wP (wKs L + wMs M + l.length) (l.take k) (fun u hu => (hF u (List.mem_of_mem_take hu)).1)
 refine qd (qd (qb (zX E (zA E (qe E qcX E) (zA E (ql E qM E E E E E) (zA E (qu E qG E) (zA E (qj E E E E) ?_))))))); refine zX E (qt 21 E (fun g21 => ?_) (fun g21 => ?_))
 ·try simp only[↓cqA,cqB]at g21
  obtain ⟨u, hu⟩ := qH (l := l) (k := k) (by omega)
  have hum := List.mem_of_getElem? hu
  have huw := hF u hum
  have hul := (Pt.wf_mem hwX hum)
  refine zZ E (qk (.inl E) E) (zZ E (qj E E E E) (zA E (qg E E E) (zK (qq E (fun c0 => ?_) (fun c0 => ?_)))))
  ·try simp only[↓cqA,cqB]at c0
   refine qr (qa (qd (qv (qb (zX E (zA E (qe E qcX E) (zA E (ql E qM E E E E E) ?_))))))); refine zX E (zA E (qp E qG E E (by omega) (qbN hu)) (zA E (qC E qad E E) (qE (avs := [_, _]) true E E E zD qbf E E (PatternWeight30_ok u hul) E E (zA E (qJ E E E (by omega)) (zX E (qc (qP (qa (qb (zX E (zA E (qJ E E E (by omega)) (zX E (qc ?_)))))))))))))
   have hb := qc7 wP (wKs L + wMs M + l.length) (l.take k) u (fun j hj => by
    by_cases hjk : j < k
    ·have := hp.2 j hjk; rwa [List.take_take, Nat.min_eq_left (by omega)]
    ·rw [List.take_of_length_le (by simp; omega)]; omega)
   rw [← qac hu] at hb
   refine qa ?_; refine ⟨?_, ?_, ?_⟩
   ·omega
   ·refine ⟨by omega, fun j hj => ?_⟩
    by_cases hjk : j < k
    ·exact hp.2 j hjk
    ·rw [show j = k by omega]; omega
   exact zR hL (zC E (SubT.cons (qan E (by exact qL (by rw [hb]; try omega))) (zC E SubT.nil))) (SubO.cons (qR E (by rfl)) SubO.nil)
  try simp only[↓cqA,cqB]at c0
  have hfin : wgtL wP (wKs L + wMs M + l.length) (l.take k) = wgtL wP (wKs L + wMs M + l.length) l := ((qcO wP _ _ k hp.1 hp.2).trans (qc6 _ _ _ (by omega))).symm
  refine qQ (qn (qn (qX ?_))); refine qa (qd (qb (zX E (zA E (qj E E E E) (zX E (zK ?_)))))); refine qo (zI hL (qh E qi) ?_ ?_)
  ·rfl
  refine ⟨qT ?_, rfl⟩
  rw [hfin]
  simp only [heavy13]
  try rfl
 try simp only[↓cqA,cqB]at g21
 have hfin : wgtL wP (wKs L + wMs M + l.length) (l.take k) = wgtL wP (wKs L + wMs M + l.length) l := by rw [List.take_of_length_le (by omega)]
 refine zY E (zY E (zA E (qg E E E) (zK (qab E (qQ (qn (qn (qX ?_)))))))); refine qa (qd (qb (zX E (zA E (qj E E E E) (zX E (zK (qo (zI hL (qh E qi) ?_ ?_))))))))
 ·rfl
 refine ⟨qT ?_, rfl⟩
 rw [hfin]
 simp only [heavy13]
 try rfl
theorem Heavy14_ok (p : Ask14) (hp : p.wf) : PF 18 [.agg (lift false (a14D p))] (bv (heavy14 p)) := by
 obtain ⟨M, K, l, G⟩ := p
 obtain ⟨hM, ⟨hlK, hwK⟩, ⟨hl, hwR⟩, hlG, hwG⟩ := hp
 have hlen := rlDs_length l
 have hlen2 : (rlDs (Ask14.mk M K l G).R).length = l.length := hlen
 have hlenG := qbm G
 have hlenG2 : (inDs (Ask14.mk M K l G).G).length = G.length := hlenG
 have hrK := wTs_range K hlK hwK
 have hF : ∀ u, u ∈ l → 0 ≤ wR u ∧ wR u ≤ 20000000000000000 := fun u hu => wR_range u (hwR u hu)
 simp only [qba] at hl hlG
 refine qF Tryz.func18 E Tryz.ntmps18 zL fun c hL hQ hDD => (qd (qb (qy E E zD (qaa 1 E E E) E (zX E (zK (qd ?_)))))); refine qZ 10 mixed E E E E (qf E zD (.run E (qe E fo_almagestlaw14_Ask_1 E)) (qf E zD (.run E (ql E q7 E E E E E)) (qf E zD (.run E (qY (avs := [_]) true E en_almagestlaw0_Terms E E (Terms_ok K hlK hwK) (fun _ => rfl) E)) (qf E zD (.run E (qe E qbH E)) (qf E zD (.run E (ql E qdQ E E E E E)) (qf E zD (.run E (qu E qdk E)) (qf E zD (.run E (qJ E E E (by omega))) (qf E zD (.run E (qe E qcW E)) ?_))))))))
 refine qf E zD (.run E (ql E qbM E E E E E)) (qf E zD (.run E (qu E qaL E)) (qak ⟨rfl, rfl, ?_⟩)); refine zA E (qJ E E E (by omega)) (zX E (zK (qd (qd (qb (zX E ?_)))))); refine zK (qv (q6 (l.length) (fun k => k ≤ l.length ∧ ∀ j, j < k → wgtL wR (wTs K + l.length + G.length) (l.take j) < 1048576) (fun k => ⟨[(1, .ptr 1 0), (3, iv (wgtL wR (wTs K + l.length + G.length) (l.take k))), (4, iv (k : Int))], [(1, .box (lift false (a14D ⟨M, K, l, G⟩)))]⟩) (⟨by omega, fun j hj => absurd hj (by omega)⟩) ?_ (fun k hk hp => ?_)))
 ·exact zR hL (zC E (SubT.cons (qan E (by exact qL (by simp only [List.take_zero, wgtL]; omega))) (zC E SubT.nil))) (SubO.cons (qR E (by rfl)) SubO.nil)
 have hwk := qdH wR 20000000000000000 (by omega) (wTs K + l.length + G.length) (l.take k) (fun u hu => (hF u (List.mem_of_mem_take hu)).2) (by omega)
 have hw0 := qbr wR (wTs K + l.length + G.length) (l.take k) (fun u hu => (hF u (List.mem_of_mem_take hu)).1)
 refine qd (qd (qb (zX E (zA E (qe E qbH E) (zA E (ql E qdQ E E E E E) (zA E (qu E qdk E) (zA E (qj E E E E) ?_))))))); refine zX E (qt 21 E (fun g21 => ?_) (fun g21 => ?_))
 ·try simp only[↓cqA,cqB]at g21
  obtain ⟨u, hu⟩ := qH (l := l) (k := k) (by omega)
  have hum := List.mem_of_getElem? hu
  have huw := hF u hum
  have hul := (hwR u hum)
  refine zZ E (qk (.inl E) E) (zZ E (qj E E E E) (zA E (qg E E E) (zK (qq E (fun c0 => ?_) (fun c0 => ?_)))))
  ·try simp only[↓cqA,cqB]at c0
   refine qr (qa (qd (qv (qb (zX E (zA E (qe E qbH E) (zA E (ql E qdQ E E E E E) ?_))))))); refine zX E (zA E (qp E qdk E E (by omega) (rlDs_get hu)) (zA E (qC E qca E E) (qE (avs := [_]) true E E E zD en_almagestlaw0_RuleWeight E E (RuleWeight_ok u hul) E E (zA E (qJ E E E (by omega)) (zX E (qc (qP (qa (qb (zX E (zA E (qJ E E E (by omega)) (zX E (qc ?_)))))))))))))
   have hb := qc7 wR (wTs K + l.length + G.length) (l.take k) u (fun j hj => by
    by_cases hjk : j < k
    ·have := hp.2 j hjk; rwa [List.take_take, Nat.min_eq_left (by omega)]
    ·rw [List.take_of_length_le (by simp; omega)]; omega)
   rw [← qac hu] at hb
   refine qa ?_; refine ⟨?_, ?_, ?_⟩
   ·omega
   ·refine ⟨by omega, fun j hj => ?_⟩
    by_cases hjk : j < k
    ·exact hp.2 j hjk
    ·rw [show j = k by omega]; omega
   exact zR hL (zC E (SubT.cons (qan E (by exact qL (by rw [hb]; try omega))) (zC E SubT.nil))) (SubO.cons (qR E (by rfl)) SubO.nil)
  try simp only[↓cqA,cqB]at c0
  have hfin : wgtL wR (wTs K + l.length + G.length) (l.take k) = wgtL wR (wTs K + l.length + G.length) l := ((qcO wR _ _ k hp.1 hp.2).trans (qc6 _ _ _ (by omega))).symm
  refine qQ (qn (qn (qX ?_))); refine qa (qd (qb (zX E (zA E (qj E E E E) (zX E (qt 37 E (fun g37 => ?_) (fun g37 => ?_)))))))
  ·try simp only[↓cqA,cqB]at g37
   refine zY E (zY E (zY E (zA E (qg E E E) (zX E (zK (qo (zI hL (qh E qi) ?_ ?_)))))))
   ·rfl
   refine ⟨qT ?_, rfl⟩
   rw [heavy14, show n14 ⟨M, K, l, G⟩ = wgtL wR (wTs K + l.length + G.length) (l.take k) from hfin.symm]
   first | (rw [decide_eq_true (show 1500 < wgtL wR (wTs K + l.length + G.length) (l.take k) by omega)]; rfl) | (rw [decide_eq_false (show ¬ 1500 < wgtL wR (wTs K + l.length + G.length) (l.take k) by omega)]; rfl)
  try simp only[↓cqA,cqB]at g37
  refine zZ E (qe E qbI E) (zZ E (ql E tf_almagestlaw13_Ask E E E E E) (zZ E (qY (avs := [_]) true E en_almagestlaw13_Heavy E E (Heavy13_ok M hM) (fun _ => rfl) E) (zA E (qg E E E) (zX E (zK (qo (zI hL (qh E qi) ?_ ?_)))))))
  ·rfl
  refine ⟨qT ?_, rfl⟩
  rw [heavy14, show n14 ⟨M, K, l, G⟩ = wgtL wR (wTs K + l.length + G.length) (l.take k) from hfin.symm]
  first | (rw [decide_eq_true (show 1500 < wgtL wR (wTs K + l.length + G.length) (l.take k) by omega)]; rfl) | (rw [decide_eq_false (show ¬ 1500 < wgtL wR (wTs K + l.length + G.length) (l.take k) by omega)]; rfl)
 try simp only[↓cqA,cqB]at g21
 have hfin : wgtL wR (wTs K + l.length + G.length) (l.take k) = wgtL wR (wTs K + l.length + G.length) l := by rw [List.take_of_length_le (by omega)]
 refine zY E (zY E (zA E (qg E E E) (zK (qab E (qQ (qn (qn (qX ?_)))))))); refine qa (qd (qb (zX E (zA E (qj E E E E) (zX E (qt 37 E (fun g37 => ?_) (fun g37 => ?_)))))))
 ·try simp only[↓cqA,cqB]at g37
  refine zY E (zY E (zY E (zA E (qg E E E) (zX E (zK (qo (zI hL (qh E qi) ?_ ?_)))))))
  ·rfl
  refine ⟨qT ?_, rfl⟩
  rw [heavy14, show n14 ⟨M, K, l, G⟩ = wgtL wR (wTs K + l.length + G.length) (l.take k) from hfin.symm]
  first | (rw [decide_eq_true (show 1500 < wgtL wR (wTs K + l.length + G.length) (l.take k) by omega)]; rfl) | (rw [decide_eq_false (show ¬ 1500 < wgtL wR (wTs K + l.length + G.length) (l.take k) by omega)]; rfl)
 try simp only[↓cqA,cqB]at g37
 refine zZ E (qe E qbI E) (zZ E (ql E tf_almagestlaw13_Ask E E E E E) (zZ E (qY (avs := [_]) true E en_almagestlaw13_Heavy E E (Heavy13_ok M hM) (fun _ => rfl) E) (zA E (qg E E E) (zX E (zK (qo (zI hL (qh E qi) ?_ ?_)))))))
 ·rfl
 refine ⟨qT ?_, rfl⟩
 rw [heavy14, show n14 ⟨M, K, l, G⟩ = wgtL wR (wTs K + l.length + G.length) (l.take k) from hfin.symm]
 first | (rw [decide_eq_true (show 1500 < wgtL wR (wTs K + l.length + G.length) (l.take k) by omega)]; rfl) | (rw [decide_eq_false (show ¬ 1500 < wgtL wR (wTs K + l.length + G.length) (l.take k) by omega)]; rfl)
end Go.Proofs.YtpgceiijoedppaaGreat
