/- Part 21 of the proof: Nl, Nm, Rdc. -/
import Derived.Test.YtpgceiijoedppaaGreatB20
set_option linter.unusedVariables false
set_option linter.unusedSimpArgs false
set_option maxRecDepth 8000
namespace Go.Proofs.YtpgceiijoedppaaGreat
open Go
def eqMt (a b : Mt) : Bool := eqBds a.b b.b && (a.fr == b.fr && a.to == b.to) && decide (a.u = b.u)
theorem eqMt_iff {a b : Mt} (hd : ∀ x ∈ a.b, dle 5 x.t) : eqMt a b = true ↔ a = b := by
 constructor
 ·intro h
  simp only [eqMt, Bool.and_eq_true, beq_iff_eq, decide_eq_true_eq] at h
  obtain ⟨⟨h1, h2, h3⟩, h4⟩ := h
  cases a; cases b
  simp only [Mt.mk.injEq]
  exact ⟨eqBds_eq hd h1, h2, h3, h4⟩
 ·intro h
  subst h
  simp only [eqMt, Bool.and_eq_true, beq_iff_eq, decide_eq_true_eq, and_true, true_and]
  refine eqBds_true E fun j x y hx hy => ?_
  rw [hx] at hy; cases hy
  simp only [eqBd, decide_true, Bool.true_and]
  exact eqT_self (hd x (List.mem_of_getElem? hx))
theorem EqMatch_ok (a b : Mt) (hd : ∀ x ∈ a.b, dle 5 x.t) (ha : a.wf) (hb : b.wf) : PF 26 [mtA a, mtA b] (bv (eqMt a b)) := by
 obtain ⟨⟨la, wa⟩, _, lua, _⟩ := id ha
 obtain ⟨⟨lb, wb⟩, _, lub, _⟩ := id hb
 simp only [qba] at la lb lua lub
 refine qF Tryz.func26 E Tryz.ntmps26 zL fun c hL hQ hDD => (qd (qb (qy E E zD (qaa 2 E E E) E (qy E E zD (qaa 3 E E E) E (zX E (zK ?_)))))); refine qd (qb (zA E (qe E qaA E) (zA E (ql E qap E E E E E) (zA E (qe E qaA E) (zA E (ql E qap E E E E E) (qE (avs := [_, _]) true E E E zD en_almagestref0_EqBinds E E (EqBinds_ok a.b b.b hd wa wb (by omega) (by omega)) E E (zX E (qt 10 E (fun g10 => ?_) (fun g10 => ?_)))))))))
 ·try simp only[↓cqA,cqB]at g10
  refine zZ E (qe E q9 E) (zZ E (ql E qaO E E E E E) (zZ E (qe E q9 E) (zZ E (ql E qaO E E E E E) (zZ E (stp_eqSpan E E E) (zA E (qg E E E) (zX E (qt 17 E (fun g17 => ?_) (fun g17 => ?_))))))))
  ·try simp only[↓cqA,cqB]at g17
   refine zZ E (qe E qaY E) (zZ E (ql E qbM E E E E E) (zZ E (qe E qaY E) (zZ E (ql E qbM E E E E E) (zZ E (qY (avs := [_, _]) true E en_almagestref0_EqNumbers E E (EqNumbers_ok a.u b.u (by omega) (by omega)) (fun _ => rfl) E) (zA E (qg E E E) (zX E (zK (qo (zI hL (qh E qi) ?_ ?_)))))))))
   ·rfl
   refine ⟨qT ?_, rfl⟩
   simp_all [eqMt]
  try simp only[↓cqA,cqB]at g17
  refine zY E (zY E (zY E (zY E (zY E (zA E (qg E E E) (zX E (qc ?_))))))); refine qa (qo (zI hL (qh E qi) ?_ ?_))
  ·rfl
  refine ⟨qT ?_, rfl⟩
  simp_all [eqMt]
 try simp only[↓cqA,cqB]at g10
 refine zY E (zY E (zY E (zY E (zY E (zA E (qg E E E) ?_)))))
 refine zX E (zY E (zY E (zY E (zY E (zY E (zA E (qg E E E) (zX E ?_))))))); refine zK (qo (zI hL (qh E qi) ?_ ?_))
 ·rfl
 refine ⟨qT ?_, rfl⟩
 simp_all [eqMt]
def eqMts : List Mt → List Mt → Bool
 | [], [] => true
 | a :: l, b :: m => eqMt a b && eqMts l m
 | _, _ => false
theorem eqMts_iff : ∀ {x y : List Mt}, (∀ a ∈ x, ∀ u ∈ a.b, dle 5 u.t) → (eqMts x y = true ↔ x = y)
  | [], [], _ => by simp [eqMts]
  | [], _ :: _, _ => by simp [eqMts]
  | _ :: _, [], _ => by simp [eqMts]
  | a :: x, b :: y, h => by
    rw [eqMts, Bool.and_eq_true, eqMt_iff (h a (by simp)), eqMts_iff (fun c hc => h c (by simp [hc]))]
    simp
theorem EqMatches_ok (x y : List Mt) (hd : ∀ a ∈ x, ∀ u ∈ a.b, dle 5 u.t) (wx : ∀ a ∈ x, a.wf) (wy : ∀ a ∈ y, a.wf) (lx : x.length ≤ 140737488351232) (ly : y.length ≤ 140737488351232) : PF 25 [.dat false 4 (mtDs x), .dat false 4 (mtDs y)] (bv (eqMts x y)) := by
 have hlx := qau x
 have hly := qau y
 have hiff := eqMts_iff (y := y) hd
 refine qF Tryz.func25 E Tryz.ntmps25 zL fun c hL hQ hDD => (qd (qb (zX E (zK (qd (qd ?_)))))); refine qb (zX E (zA E (qu E qz E) (zX E (zA E (qu E qz E) (zA E (qj E E E E) (zK (qq E (fun c0 => ?_) (fun c0 => ?_))))))))
 ·try simp only[↓cqA,cqB]at c0
  refine qd (qb (zX E (zK (qo (qm (zI hL (qh E qi) ?_ ?_))))))
  ·rfl
  exact ⟨qT (by symm; rw [Bool.eq_false_iff]; intro h; rw [hiff.1 h] at c0; omega), rfl⟩
 try simp only[↓cqA,cqB]at c0
 refine qr (qa (qd (qd (qb (zX E (zK ?_)))))); refine qv (q6 (x.length) (fun k => k ≤ x.length ∧ x.take k = y.take k) (fun k => ⟨[(0, .dat false 4 (mtDs x)), (1, .dat false 4 (mtDs y)), (5, iv (k : Int))], []⟩) (⟨by omega, by simp⟩) ?_ (fun k hk hp => ?_))
 ·exact zR hL (zC E (zC E (zC E SubT.nil))) SubO.nil
 refine qd (qd (qb (zX E (zX E (zA E (qu E qz E) (zA E (qj E E E E) (qc ?_))))))); refine qa (qq E (fun c1 => ?_) (fun c1 => ?_))
 ·try simp only[↓cqA,cqB]at c1
  obtain ⟨u, hu⟩ := qH (l := x) (k := k) (by omega)
  obtain ⟨v, hv⟩ := qH (l := y) (k := k) (by omega)
  have hum := List.mem_of_getElem? hu
  have hi2 := eqMt_iff (b := v) (hd u hum)
  refine qr (qa (qd (qv (qd (qZ 8 mixed E E E E (qf E zD (.run E (qk (.inl E) E)) (qf E zD (.run E (qk (.inl E) E)) ?_))))))); refine qf E zD (.run E (qp E qz E E (by omega) (qa9 hu))) (qf E zD (.run E (qC E qV E E)) (qf E zD (.run E (qk (.inl E) E)) (qf E zD (.run E (qk (.inl E) E)) (qf E zD (.run E (qp E qz E E (by omega) (qa9 hv))) (qf E zD (.run E (qC E qV E E)) ?_)))))
  refine qak ⟨rfl, rfl, ?_⟩; refine qE (avs := [_, _]) true E E E zD qd1 E E (EqMatch_ok u v (hd u hum) (wx u hum) (wy v (List.mem_of_getElem? hv))) E E (zA E (qal E E) (zK (qq E (fun c2 => ?_) (fun c2 => ?_))))
  ·try simp only[↓cqA,cqB]at c2
   refine qd (qb (zX E (zK (qo (qS (qm (qm (qS (qm (zI hL (qh E qi) ?_ ?_))))))))))
   ·rfl
   exact ⟨qT (by symm; rw [Bool.eq_false_iff]; intro h; rw [hiff.1 h, hv] at hu; cases hu; rw [hi2.2 rfl] at c2; cases c2), rfl⟩
  try simp only[↓cqA,cqB]at c2
  refine qr (qP (qa (qb (zX E (zA E (qJ E E E (by omega)) (zX E (qc ?_))))))); refine qa ?_; refine ⟨?_, ?_, ?_⟩
  ·omega
  ·refine ⟨by omega, ?_⟩
   rw [qac hu, qac hv, hp.2, hi2.1 (by assumption)]
  exact zR hL (zC E (zC E (zC E SubT.nil))) SubO.nil
 try simp only[↓cqA,cqB]at c1
 refine qQ (qn (qn (qX ?_))); refine qa (qd (qb (zX E (zK (qo (zI hL (qh E qi) ?_ ?_))))))
 ·rfl
 exact ⟨qT (by symm; rw [hiff]; have h := hp.2; rw [List.take_of_length_le (by omega), List.take_of_length_le (by omega)] at h; exact h), rfl⟩
theorem num14_ok (e : Int) : PF 24 [iv e] (iv e) := by
 refine qF Tryz.func24 E Tryz.ntmps24 zL fun c hL hQ hDD => (qd (qb (zX E (zK (qd (qb ?_)))))); refine zX E (zX E (zK (qo (zI hL (qh E qi) ?_ ?_))))
 ·rfl
 exact ⟨rfl, rfl⟩
def sH : ByteArray := ⟨#[104]⟩
def sA14 : ByteArray := ⟨#[97]⟩
def wkR14 : Rl := ⟨⟨3, sH, 0, []⟩, ⟨1, ⟨3, sA14, 0, []⟩, 0, [], [], []⟩, [], 3, 0⟩
def wkM14 : Mt := ⟨[], 1, 2, []⟩
theorem lenOk_nil {α : Type} : qba ([] : List α) := by simp [qba]
theorem wkR14_w : wkR14.wf := ⟨nmT_w sH [] (by decide) (by decide) (fun t ht => by cases ht), ⟨by decide, nmT_w sA14 [] (by decide) (by decide) (fun t ht => by cases ht), by decide, ⟨lenOk_nil, trivial⟩, ⟨lenOk_nil, trivial⟩, lenOk_nil, trivial⟩, ⟨lenOk_nil, fun g hg => by cases hg⟩, by decide, by decide⟩
theorem wkM14_ok : MOk 0 wkM14 := ⟨GG_nil, by decide, by decide, by decide, by decide, fun x hx => by cases hx⟩
theorem wakes14_ok : PF 29 [] (bv true) := by
 have hput : putT [] (⟨3, sH, 0, []⟩ : Tm) = ⟨3, sH, 0, []⟩ := by rfl
 have key := Heads_ok (n := 0) zD wkR14 wkR14_w (by kernel_rfl) [wkM14] (by simp) (fun m h => by rw [List.mem_singleton.1 h]; exact wkM14_ok) (fun m h => by rw [List.mem_singleton.1 h]; exact ⟨by kernel_rfl, by kernel_rfl⟩)
 have hon : onceF ([wkM14].map (headF wkR14.head)) = [⟨⟨3, sH, 0, []⟩, 1, 2⟩] := by kernel_rfl
 rw [hon] at key
 refine qF Tryz.func29 E Tryz.ntmps29 zL fun c hL hQ hDD => (qd (qb (zX E (zK (qd (qb ?_)))))); refine zA E (qa1 E qaw E qdI E E) (qy E E zD (qaD 1 E qaw E) E (qae E E E qw E E E E E E E E E (zK (qd (qb (zA E (qa1 E qaw E qdI E E) (zA E (qK E qw E E E E) ?_)))))))
 refine zA E (qa1 E zv_api_Pattern E pl_api_Pattern E E) (zA E (qa1 E zv_api_Rule E pl_api_Rule E E) (qy E E zD (qaD 2 E zv_api_Rule E) E (qae E E E qca E E E E E E E E E (zK (qd (qb ?_)))))); refine zA E (qK E qca E E E E) (zA E (qa1 E zv_api_Span E pl_api_Span E E) (zA E (qa1 E qax E qbk E E) (qaB (sub_le 13 E (u := mtA wkM14) (.agg (.cons .nil (.cons .refl (.cons .refl (.cons .nil .nil)))))) (zA E (stp_buildSliceD false E qz qax E E zD zD zD E E E E) (qaB (sub_le 11 E (u := rlA wkR14) (.agg (.cons .refl (.cons .refl (.cons .refl (.cons .nil (.cons .refl (.cons .refl (.cons .refl (.cons .refl (.cons .nil (.cons .refl (.cons .nil (.cons .nil (.cons .nil (.cons .nil (.cons .refl (.cons .refl .nil)))))))))))))))))) (qE (avs := [_, _]) false E E E zD en_rule_Heads E E (key) E E ?_))))))
 refine zX E (zA E (qay E E E) (zA E (qay E E E) (zX E (zX E (zK (qd (qb (zX E (qE (avs := [_]) true E E E zD en_almagestlaw14_num E E (num14_ok _) E E (zA E (qj E E E E) (zX E (qt 21 E (fun g21 => ?_) (fun g21 => ?_)))))))))))))
 ·try simp only[↓cqA,cqB]at g21
  refine zZ E (qk (.inl E) E) (zZ E (qu E qaV E) (zZ E (qj E E E E) (zA E (qg E E E) (zX E (qt 26 E (fun g26 => ?_) (fun g26 => ?_))))))
  ·try simp only[↓cqA,cqB]at g26
   refine zZ E (qk (.inl E) E) (zZ E (qp E qaV E E (by omega) E) (zZ E (qA E qb4 E) (zZ E (qC E qaO E E) (zZ E (qa1 E zv_api_Span E pl_api_Span E E) (zZ E (stp_eqSpan E E E) (zA E (qg E E E) (zX E (qt 34 E (fun g34 => ?_) (fun g34 => ?_)))))))))
   ·try simp only[↓cqA,cqB]at g34
    refine zZ E (qk (.inl E) E) (zZ E (qp E qaV E E (by omega) E) (zZ E (qA E qbP E) (zZ E (qA E qav E) (zZ E (qN E qaf E) (zZ E (qbV E E E E) (zA E (qg E E E) (zX E (zK (qo (zI hL (qh E qi) ?_ ?_))))))))))
    ·rfl
    refine ⟨?_, rfl⟩
    first
     | exact absurd trivial g21
     | exact absurd E g26
     | exact absurd g34 zD
     | exact qT (by kernel_rfl)
   try simp only[↓cqA,cqB]at g34
   refine zY E (zY E (zY E (zY E (zY E (zY E (zA E (qg E E E) (zX E ?_))))))); refine zK (qo (zI hL (qh E qi) ?_ ?_))
   ·rfl
   refine ⟨?_, rfl⟩
   first
    | exact absurd trivial g21
    | exact absurd E g26
    | exact absurd g34 zD
    | exact qT (by kernel_rfl)
  try simp only[↓cqA,cqB]at g26
  refine zY E (zY E (zY E (zY E (zY E (zY E (zA E (qg E E E) (zX E (zY E (zY E (zY E (zY E (zY E (zY E (zA E (qg E E E) (zX E (zK (qo (zI hL (qh E qi) ?_ ?_))))))))))))))))))
  ·rfl
  refine ⟨?_, rfl⟩
  first
   | exact absurd trivial g21
   | exact absurd E g26
   | exact absurd g34 zD
   | exact qT (by kernel_rfl)
 try simp only[↓cqA,cqB]at g21
 refine zY E (zY E (zY E (zA E (qg E E E) (zX E (zY E (zY E (zY E (zY E (zY E (zY E (zA E (qg E E E) (zX E (zY E (zY E (zY E (zY E (zY E (zY E (zA E (qg E E E) (zX E (zK (qo (zI hL (qh E qi) ?_ ?_)))))))))))))))))))))))
 ·rfl
 refine ⟨?_, rfl⟩
 first
  | exact absurd trivial g21
  | exact absurd E g26
  | exact absurd g34 zD
  | exact qT (by kernel_rfl)
theorem heavy14_no {p : Ask14} (hp : p.wf) (h : heavy14 p = false) : p.R.length ≤ 1500 ∧ p.G.length ≤ 1500 ∧ p.M.L.length ≤ 1200 ∧ ∀ r ∈ p.R, dlP 30 r.body ∧ ∀ g ∈ r.g, dle 30 g.r := by
 obtain ⟨hM, ⟨hlK, hwK⟩, ⟨hlR, hwR⟩, hlG, hwG⟩ := id hp
 obtain ⟨⟨hlL, hwL⟩, ⟨hlX, hwX⟩, _, hlM, hwM⟩ := id hM
 have hrK := wTs_range p.K hlK hwK
 have hrL := wKs_range p.M.L hlL hwL
 have hrM := wMs_range p.M.M hlM hwM
 simp only [heavy14, heavy13, Bool.or_eq_false_iff, decide_eq_false_iff_not] at h
 obtain ⟨h1, h2⟩ := h
 have hR : ∀ u, u ∈ p.R → 0 ≤ wR u := fun u hu => (wR_range u (hwR u hu)).1
 have hP : ∀ u, u ∈ p.M.X → 0 ≤ wP u := fun u hu => (wP_range u (Pt.wf_mem hwX hu)).1
 obtain ⟨a1, a2⟩ := wgtL_mem wR 1500 (by omega) (wTs p.K + p.R.length + p.G.length) p.R hR (by omega) (by simp only [n14] at h1; omega)
 obtain ⟨b1, b2⟩ := wgtL_mem wP 1200 (by omega) (wKs p.M.L + wMs p.M.M + p.M.X.length) p.M.X hP (by omega) (by simp only [n13] at h2; omega)
 have hL : (p.M.L.length : Int) ≤ wKs p.M.L := qbr wK _ p.M.L (fun u hu => (qbL u.f.t (hwL u hu).2.1).1)
 refine ⟨by omega, by omega, by omega, fun r hr => ?_⟩
 have h3 := a2 r hr
 have hrw := hwR r hr
 have w1 := qbL r.head hrw.1
 have w2 := wP_range r.body hrw.2.1
 have w3 := wGs_range r.g hrw.2.2.1.1 hrw.2.2.1.2
 simp only [wR] at h3
 exact ⟨wgtP_dlP 30 r.body hrw.2.1 (show wP r.body ≤ 1048575 by omega), fun g hg => (wGs_dle hrw.2.2.1.2 (show wGs r.g ≤ 1048575 by omega) g hg).2⟩
theorem okR_policy {r : Rl} (h : okR r = true) {q : Int} (h0 : 0 ≤ q) (h2 : q ≤ 2) : okR { r with policy := q } = true := by
 simp only [okR, Bool.and_eq_true, decide_eq_true_eq] at h ⊢
 exact ⟨⟨h.1.1, h0⟩, h2⟩
theorem anyMt_take {x u : Mt} {M : List Mt} {j : Nat} (h : M[j]? = some u) : (M.take (j + 1)).any (eqMt x) = ((M.take j).any (eqMt x) || eqMt x u) := by
 rw [qac h, List.any_append]; simp
theorem rName_a : nameB ⟨#[97]⟩ = true := by kernel_rfl
set_option maxHeartbeats 4000000 in
theorem RuleAmong_ok (p : Ask14) (hp : p.wf) : PF 3 [.agg (lift false (a14D p))] (bv true) := by
 obtain ⟨hM, ⟨hlK, hwK⟩, ⟨hlR, hwR⟩, hlG, hwG⟩ := id hp
 obtain ⟨⟨hlL, hwL⟩, _⟩ := id hM
 have hdR := rlDs_length p.R
 have hdL := kpDs_length p.M.L
 have hdG := qbm p.G
 refine qF Tryz.func3 E Tryz.ntmps3 zL fun c hL hQ hDD => (qd (qb (qy E E zD (qaa 1 E E E) E (zX E (zK (qd ?_)))))); refine qd (qb (zA E (qK E tf_almagestlaw14_Ask E E E E) (qE (avs := [_]) true E E E zD en_almagestlaw14_Heavy E E (Heavy14_ok p hp) E E (zK (qq E (fun c0 => ?_) (fun c0 => ?_))))))
 ·try simp only[↓cqA,cqB]at c0
  refine qd (qb (zX E (zK (qo (qm (zI hL (qh E qi) ?_ ?_))))))
  ·rfl
  first
  | exact ⟨rfl, rfl⟩
  | trace_state
 try simp only[↓cqA,cqB]at c0
 have hheavy : heavy14 p = false := by first | assumption | simpa using c0
 obtain ⟨nR, nG, nL, hdl⟩ := heavy14_no hp hheavy
 refine qr (qa (qd (qd (qb (zX E (zK ?_)))))); refine qv (q6 (p.R.length) (fun i => i ≤ p.R.length) (fun i => ⟨[(1, .ptr 1 0), (3, iv (i : Int))], [(1, .box (lift false (a14D p)))]⟩) (by omega) ?_ (fun i hi hpi => ?_))
 ·exact zR hL (zC E (zC E SubT.nil)) (SubO.cons (qR E (by rfl)) SubO.nil)
 refine qd (qd (qb (zX E (zA E (qe E qbH E) (zA E (ql E qdQ E E E E E) (zA E (qu E qdk E) (zA E (qj E E E E) ?_))))))); refine zX E (qt 21 E (fun g21 => ?_) (fun g21 => ?_))
 ·try simp only[↓cqA,cqB]at g21
  obtain ⟨r, hr⟩ := qH (l := p.R) (k := i) (by omega)
  have hrm := List.mem_of_getElem? hr
  have hrw := hwR r hrm
  obtain ⟨hd1, hd2⟩ := hdl r hrm
  refine zZ E (qk (.inl E) E) (zZ E (qj E E E E) (zA E (qg E E E) (zK (qq E (fun c1 => ?_) (fun c1 => ?_)))))
  ·try simp only[↓cqA,cqB]at c1
   refine qr (qa (qd (qv (qd (qb (zA E (qe E qbH E) (zA E (ql E qdQ E E E E E) ?_))))))); refine zX E (zA E (qp E qdk E E (by omega) (rlDs_get hr)) (zA E (qC E qca E E) (qy E E zD (qaD 4 E zv_api_Rule E) E (qae E E E qca E E E E E E E E E (zK (qd (qd (qb (zA E (qK E qca E E E E) (qE (avs := [_]) true E E E zD en_almagestref10_Rule E E (rRule10_ok 30 r hrw hd1 hd2) E E (zA E (qj E E E E) (zX E (qt 35 E (fun g35 => ?_) (fun g35 => ?_))))))))))))))
   ·try simp only[↓cqA,cqB]at g35
    refine zY E (zY E (zY E (zY E (zY E (zA E (qg E E E) (zX E (zY E (zY E (zY E (zY E (zY E ?_)))))))))))
    refine zY E (zY E (zY E (zA E (qg E E E) (zK (qaN E (qQ ?_)))))); refine qn (qX ?_)
    refine qa (qb (zX E (zA E (qJ E E E (by omega)) (zX E (zK ?_))))); refine ⟨?_, ?_, ?_⟩
    ·omega
    ·omega
    exact zR hL (zC E (zC E SubT.nil)) (SubO.cons (qR E (by rfl)) SubO.nil)
   try simp only[↓cqA,cqB]at g35
   refine zZ E (qe E qbI E) (zZ E (qe E qcf E) (zZ E (ql E tf_S_api_Kept E E E E E) (zZ E (qY (avs := [_]) true E en_almagestref7_Facts E E (rFacts_ok p.M.L (by omega) hwL) (fun _ => rfl) E) (zZ E (qal E E) (zA E (qg E E E) (zX E (qt 42 E (fun g42 => ?_) (fun g42 => ?_))))))))
   ·try simp only[↓cqA,cqB]at g42
    refine zY E (zY E (zY E (zY E (zY E (zY E ?_)))))
    refine zY E (zY E (zA E (qg E E E) (zK (qaN E (qQ (qn (qX ?_))))))); refine qa (qb ?_)
    refine zX E (zA E (qJ E E E (by omega)) (zX E (zK ?_))); refine ⟨?_, ?_, ?_⟩
    ·omega
    ·omega
    exact zR hL (zC E (zC E SubT.nil)) (SubO.cons (qR E (by rfl)) SubO.nil)
   try simp only[↓cqA,cqB]at g42
   refine zZ E (qe E qdn E) (zZ E (ql E qad E E E E E) (zZ E (qe E qbI E) (zZ E (qe E qcf E) (zZ E (ql E tf_S_api_Kept E E E E E) (zZ E (qu E qaq E) (zZ E (qY (avs := [_, _]) true E en_almagestlaw13_Light E E (Light_ok 30 r.body hrw.2.1 hd1 (kpDs p.M.L).length (by omega) (by omega)) (fun _ => rfl) E) (zZ E (qal E E) (zA E (qg E E E) (zK (qq E (fun c2 => ?_) (fun c2 => ?_)))))))))))
   ·try simp only[↓cqA,cqB]at c2
    refine qQ (qn (qX ?_)); refine qa (qb (zX E (zA E (qJ E E E (by omega)) (zX E (zK ?_))))); refine ⟨?_, ?_, ?_⟩
    ·omega
    ·omega
    exact zR hL (zC E (zC E SubT.nil)) (SubO.cons (qR E (by rfl)) SubO.nil)
   try simp only[↓cqA,cqB]at c2
   have hE : ruleE r = 0 := by assumption
   have hlist : listB p.M.L = true := by assumption
   have hokr := ruleE_ok hE
   have hpat := ((okP_iff r.body).1 (okR_parts hokr).2.2.1).1
   have hMM := mAll_mem hlist hwL 8 r.body hrw.2.1 hpat
   have hMl := mAll_ok hlist hwL 8 r.body hrw.2.1 hpat
   refine qr (qa (qd (qb (zA E (qe E qbI E) (zA E (qe E qcf E) (zA E (ql E tf_S_api_Kept E E E E E) (zA E (qe E qdn E) ?_))))))); refine zA E (ql E qad E E E E E) ?_
   refine qaj (avs := [_, _]) false E E E zD qcC E E (AC_rnE 6 86 (rAll_ok hlist hwL 8 (by omega) r.body hrw.2.1 hpat)) E (qbX .nil) (by rintro r O' ⟨_, rfl⟩; exact frB E) (by rintro h; cases h) ?_
   rintro r2 O' ⟨rfl, rfl⟩
   refine zX E (zA E (qay E E E) (zA E (qay E E E) (zX E (zX E (zK ?_)))))
   refine qd (qd (qd3 (qa4 (l := 86) E zD (noL hL _) E E) (qb (zX E (zA E (qal E E) (zK ?_)))))); refine qq E (fun c3 => ?_) (fun c3 => ?_)
   ·try simp only[↓cqA,cqB]at c3
    refine qQ (qn (qX ?_)); refine qa (qb (zX E (zA E (qJ E E E (by omega)) (zX E (zK ?_))))); refine ⟨?_, ?_, ?_⟩
    ·omega
    ·omega
    exact zR hL (zC E (zC E SubT.nil)) (SubO.cons (qR E (by rfl)) SubO.nil)
   try simp only[↓cqA,cqB]at c3
   have hM1 : (mAll 8 p.M.L r.body).1.length ≤ 1000 := hMl.resolve_right (by rw [show (mAll 8 p.M.L r.body).2 = true by assumption]; exact Bool.noConfusion)
   generalize hgen : (mAll 8 p.M.L r.body).1 = M at *
   have hdM := qau M
   have hMw : ∀ m ∈ M, m.wf := fun m hm => (hMM m hm).wf (by decide)
   have hMd : ∀ m ∈ M, ∀ x ∈ m.b, dle 5 x.t := fun m hm => (hMM m hm).dle
   refine qr (qa (qd (qb (zX E (zK (qv ?_)))))); refine qdq (α := Int) (3) (fun q pol => q ≤ 3) (fun q pol => ⟨[(1, .ptr 1 0), (3, iv (i : Int)), (4, .ptr 4 0), (5, .dat false 4 (mtDs M)), (7, iv (q : Int))], [(1, .box (lift false (a14D p))), (4, .box (lift false (rlD { r with policy := pol })))]⟩) (r.policy) (by omega) ?_ (fun q pol hq hpq => ?_)
   ·exact zR hL (zC E (zC E (zC E (zC E (zC E SubT.nil))))) (SubO.cons (qR E (by rfl)) (SubO.cons (qR E (by rfl)) SubO.nil))
   refine qd (qd (qb (zX E (zA E (qj E E E E) (zK (qq E (fun c4 => ?_) (fun c4 => ?_)))))))
   ·try simp only[↓cqA,cqB]at c4
    have hq : (q : Int) = 0 ∨ (q : Int) = 1 ∨ (q : Int) = 2 := by omega
    have hokq := okR_policy hokr (q := (q : Int)) (by omega) (by omega)
    have hrq : ({ r with policy := (q : Int) } : Rl).wf := ⟨hrw.1, hrw.2.1, hrw.2.2.1, hrw.2.2.2.1, by simp only [i64]; omega⟩
    have hch := Chosen_ok (n := 2 ^ 8) (by decide) { r with policy := (q : Int) } hrq hokq M (by omega) hMM p.G (by simp only [qba] at hlG; omega)
    have hcin : ∀ x ∈ qbK (q : Int) p.G M, x ∈ M := fun x hx => chosen_in hx
    have hcw : ∀ x ∈ qbK (q : Int) p.G M, x.wf := fun x hx => hMw x (hcin x hx)
    have hcd : ∀ x ∈ qbK (q : Int) p.G M, ∀ y ∈ x.b, dle 5 y.t := fun x hx => hMd x (hcin x hx)
    have hclen : (qbK (q : Int) p.G M).length ≤ 1000 := by
     by_cases h0 : (q : Int) = 0
     ·rw [h0, chosen_all]; omega
     ·have := chosen_len (gone := p.G) (l := M) h0; omega
    have hdc := qau (qbK (q : Int) p.G M)
    have hne := fun h0 : (q : Int) ≠ 0 => chosen_len (gone := p.G) (l := M) h0
    have hal := fun h0 : (q : Int) = 0 => (show qbK (q : Int) p.G M = M by rw [h0, chosen_all])
    have hrec := fun h1 : (q : Int) = 1 => (show (0 < M.length → (qbK (q : Int) p.G M).length = 1) ∧ ∀ x ∈ qbK (q : Int) p.G M, ∀ m ∈ M, m.fr ≤ x.fr by rw [h1]; exact chosen_recent)
    have hfst := fun h2 : (q : Int) = 2 => (show ∀ x ∈ qbK (q : Int) p.G M, ∀ n ∈ x.u, ¬ n ∈ p.G by rw [h2]; exact fun x hx => chosen_first hx)
    generalize hgc : qbK (q : Int) p.G M = X at *
    refine qr (qa (qd (qv (qd (qb (zX E (zA E (qe E qdm E) ?_))))))); refine qae E E E qU E E E E E E E E E (zK (qd (qb (zA E (qK E qca E E E E) (zX E (zA E (qe E qcW E) (zA E (ql E qbM E E E E E) (qE (avs := [_, _, _]) true E E E zD en_rule_Chosen E E (hch) E E (zX E (zA E (qay E E E) (zA E (qay E E E) (zX E (zX E (zK (qcN ⟨[(1, .ptr 1 0), (3, iv (i : Int)), (4, .ptr 4 0), (5, .dat false 4 (mtDs M)), (7, iv (q : Int)), (8, .dat true 4 (mtDs X))], [(1, .box (lift false (a14D p))), (4, .box (lift false (rlD { r with policy := (q : Int) })))]⟩ ?_ ?_)))))))))))))))
    ·refine qd (qb (zX E (qE (avs := [_]) true E E E zD en_almagestlaw14_num E E (num14_ok _) E E (zA E (qj E E E E) (zX E (qt 80 E (fun g80 => ?_) (fun g80 => ?_)))))))
     ·try simp only[↓cqA,cqB]at g80
      exact absurd trivial g80
     try simp only[↓cqA,cqB]at g80
     refine zZ E (qk (.inl E) E) (zZ E (qj E E E E) (zZ E (qk (.inl E) E) (qt 83 E (fun g83 => ?_) (fun g83 => ?_))))
     ·try simp only[↓cqA,cqB]at g83
      refine zZ E (qk (.inl E) E) (zZ E (qk (.inl E) E) (zZ E (qY (avs := [_, _]) true E en_almagestref0_EqMatches E E (EqMatches_ok X M hcd hcw hMw (by omega) (by omega)) (fun _ => rfl) E) (zZ E (qal E E) (zZ E (qg E E E) (zA E (qg E E E) (zX E (qt 90 E (fun g90 => ?_) (fun g90 => ?_))))))))
      ·try simp only[↓cqA,cqB]at g90
       exfalso
       have h0 : (q : Int) = 0 := by assumption
       rw [(eqMts_iff hcd).2 (hal h0)] at g90; cases g90
      try simp only[↓cqA,cqB]at g90
      refine zZ E (qk (.inl E) E) (zZ E (qj E E E E) (zZ E (qk (.inl E) E) (qt 93 E (fun g93 => ?_) (fun g93 => ?_))))
      ·try simp only[↓cqA,cqB]at g93
       refine zZ E (qk (.inl E) E) (zZ E (qu E qz E) (zZ E (qj E E E E) (zZ E (qg E E E) (zA E (qg E E E) (zX E (qt 99 E (fun g99 => ?_) (fun g99 => ?_)))))))
       ·try simp only[↓cqA,cqB]at g99
        exfalso
        have h1 := hne (by assumption)
        omega
       try simp only[↓cqA,cqB]at g99
       refine zZ E (qk (.inl E) E) (zZ E (qj E E E E) (zZ E (qk (.inl E) E) (qt 102 E (fun g102 => ?_) (fun g102 => ?_))))
       ·try simp only[↓cqA,cqB]at g102
        refine zZ E (qk (.inl E) E) (zZ E (qu E qz E) (zZ E (qj E E E E) (zZ E (qg E E E) (zZ E (qk (.inl E) E) (qt 107 E (fun g107 => ?_) (fun g107 => ?_))))))
        ·try simp only[↓cqA,cqB]at g107
         refine zZ E (qk (.inl E) E) (zZ E (qu E qz E) (zZ E (qj E E E E) (zZ E (qg E E E) (zA E (qg E E E) (zK (qq E (fun c5 => ?_) (fun c5 => ?_)))))))
         ·try simp only[↓cqA,cqB]at c5
          exfalso
          have h1 := (hrec (by assumption)).1 (by omega)
          omega
         try simp only[↓cqA,cqB]at c5
         refine qr ?_
         exact qai (qB (zC E (zC E (zC E (zC E (zC E (zC E SubT.nil)))))) (SubO.cons (qR E (by rfl)) (SubO.cons (qR E (by rfl)) SubO.nil)) E E (noL' (noL hL) _))
        try simp only[↓cqA,cqB]at g107
        refine zY E (zY E (zY E (zZ E (qg E E E) (zA E (qg E E E) (zK (qab E ?_)))))); refine qr ?_
        exact qai (qB (zC E (zC E (zC E (zC E (zC E (zC E SubT.nil)))))) (SubO.cons (qR E (by rfl)) (SubO.cons (qR E (by rfl)) SubO.nil)) E E (noL' (noL hL) _))
       try simp only[↓cqA,cqB]at g102
       refine zY E (zY E (zY E (zZ E (qg E E E) (zZ E (qk (.inl E) E) ?_))))
       refine zY E (zY E (zY E (zZ E (qg E E E) (zA E (qg E E E) (zK (qab E ?_)))))); refine qr ?_
       exact qai (qB (zC E (zC E (zC E (zC E (zC E (zC E SubT.nil)))))) (SubO.cons (qR E (by rfl)) (SubO.cons (qR E (by rfl)) SubO.nil)) E E (noL' (noL hL) _))
      try simp only[↓cqA,cqB]at g93
      refine zY E (zY E (zY E (zZ E (qg E E E) (zA E (qg E E E) (zX E (zZ E (qk (.inl E) E) (zZ E (qj E E E E) (zZ E (qk (.inl E) E) (qt 102 E (fun g102 => ?_) (fun g102 => ?_))))))))))
      ·try simp only[↓cqA,cqB]at g102
       refine zZ E (qk (.inl E) E) (zZ E (qu E qz E) (zZ E (qj E E E E) (zZ E (qg E E E) (zZ E (qk (.inl E) E) (qt 107 E (fun g107 => ?_) (fun g107 => ?_))))))
       ·try simp only[↓cqA,cqB]at g107
        refine zZ E (qk (.inl E) E) (zZ E (qu E qz E) (zZ E (qj E E E E) (zZ E (qg E E E) (zA E (qg E E E) (zK (qq E (fun c5 => ?_) (fun c5 => ?_)))))))
        ·try simp only[↓cqA,cqB]at c5
         exfalso
         have h1 := (hrec (by assumption)).1 (by omega)
         omega
        try simp only[↓cqA,cqB]at c5
        refine qr ?_
        exact qai (qB (zC E (zC E (zC E (zC E (zC E (zC E SubT.nil)))))) (SubO.cons (qR E (by rfl)) (SubO.cons (qR E (by rfl)) SubO.nil)) E E (noL' (noL hL) _))
       try simp only[↓cqA,cqB]at g107
       refine zY E (zY E (zY E (zZ E (qg E E E) (zA E (qg E E E) (zK (qab E ?_)))))); refine qr ?_
       exact qai (qB (zC E (zC E (zC E (zC E (zC E (zC E SubT.nil)))))) (SubO.cons (qR E (by rfl)) (SubO.cons (qR E (by rfl)) SubO.nil)) E E (noL' (noL hL) _))
      try simp only[↓cqA,cqB]at g102
      refine zY E (zY E (zY E (zZ E (qg E E E) (zZ E (qk (.inl E) E) ?_))))
      refine zY E (zY E (zY E (zZ E (qg E E E) (zA E (qg E E E) (zK (qab E ?_)))))); refine qr ?_
      exact qai (qB (zC E (zC E (zC E (zC E (zC E (zC E SubT.nil)))))) (SubO.cons (qR E (by rfl)) (SubO.cons (qR E (by rfl)) SubO.nil)) E E (noL' (noL hL) _))
     try simp only[↓cqA,cqB]at g83
     refine zY E (zY E (zY E (zY E (zZ E (qg E E E) (zA E (qg E E E) (zX E (zZ E (qk (.inl E) E) (zZ E (qj E E E E) (zZ E (qk (.inl E) E) (qt 93 E (fun g93 => ?_) (fun g93 => ?_)))))))))))
     ·try simp only[↓cqA,cqB]at g93
      refine zZ E (qk (.inl E) E) (zZ E (qu E qz E) (zZ E (qj E E E E) (zZ E (qg E E E) (zA E (qg E E E) (zX E (qt 99 E (fun g99 => ?_) (fun g99 => ?_)))))))
      ·try simp only[↓cqA,cqB]at g99
       exfalso
       have h1 := hne (by assumption)
       omega
      try simp only[↓cqA,cqB]at g99
      refine zZ E (qk (.inl E) E) (zZ E (qj E E E E) (zZ E (qk (.inl E) E) (qt 102 E (fun g102 => ?_) (fun g102 => ?_))))
      ·try simp only[↓cqA,cqB]at g102
       refine zZ E (qk (.inl E) E) (zZ E (qu E qz E) (zZ E (qj E E E E) (zZ E (qg E E E) (zZ E (qk (.inl E) E) (qt 107 E (fun g107 => ?_) (fun g107 => ?_))))))
       ·try simp only[↓cqA,cqB]at g107
        refine zZ E (qk (.inl E) E) (zZ E (qu E qz E) (zZ E (qj E E E E) (zZ E (qg E E E) (zA E (qg E E E) (zK (qq E (fun c5 => ?_) (fun c5 => ?_)))))))
        ·try simp only[↓cqA,cqB]at c5
         exfalso
         have h1 := (hrec (by assumption)).1 (by omega)
         omega
        try simp only[↓cqA,cqB]at c5
        refine qr ?_
        exact qai (qB (zC E (zC E (zC E (zC E (zC E (zC E SubT.nil)))))) (SubO.cons (qR E (by rfl)) (SubO.cons (qR E (by rfl)) SubO.nil)) E E (noL' (noL hL) _))
       try simp only[↓cqA,cqB]at g107
       refine zY E (zY E (zY E (zZ E (qg E E E) (zA E (qg E E E) (zK (qab E ?_)))))); refine qr ?_
       exact qai (qB (zC E (zC E (zC E (zC E (zC E (zC E SubT.nil)))))) (SubO.cons (qR E (by rfl)) (SubO.cons (qR E (by rfl)) SubO.nil)) E E (noL' (noL hL) _))
      try simp only[↓cqA,cqB]at g102
      refine zY E (zY E (zY E (zZ E (qg E E E) (zZ E (qk (.inl E) E) ?_))))
      refine zY E (zY E (zY E (zZ E (qg E E E) (zA E (qg E E E) (zK (qab E ?_)))))); refine qr ?_
      exact qai (qB (zC E (zC E (zC E (zC E (zC E (zC E SubT.nil)))))) (SubO.cons (qR E (by rfl)) (SubO.cons (qR E (by rfl)) SubO.nil)) E E (noL' (noL hL) _))
     try simp only[↓cqA,cqB]at g93
     refine zY E (zY E (zY E (zZ E (qg E E E) (zA E (qg E E E) (zX E (zZ E (qk (.inl E) E) (zZ E (qj E E E E) (zZ E (qk (.inl E) E) (qt 102 E (fun g102 => ?_) (fun g102 => ?_))))))))))
     ·try simp only[↓cqA,cqB]at g102
      refine zZ E (qk (.inl E) E) (zZ E (qu E qz E) (zZ E (qj E E E E) (zZ E (qg E E E) (zZ E (qk (.inl E) E) (qt 107 E (fun g107 => ?_) (fun g107 => ?_))))))
      ·try simp only[↓cqA,cqB]at g107
       refine zZ E (qk (.inl E) E) (zZ E (qu E qz E) (zZ E (qj E E E E) (zZ E (qg E E E) (zA E (qg E E E) (zK (qq E (fun c5 => ?_) (fun c5 => ?_)))))))
       ·try simp only[↓cqA,cqB]at c5
        exfalso
        have h1 := (hrec (by assumption)).1 (by omega)
        omega
       try simp only[↓cqA,cqB]at c5
       refine qr ?_
       exact qai (qB (zC E (zC E (zC E (zC E (zC E (zC E SubT.nil)))))) (SubO.cons (qR E (by rfl)) (SubO.cons (qR E (by rfl)) SubO.nil)) E E (noL' (noL hL) _))
      try simp only[↓cqA,cqB]at g107
      refine zY E (zY E (zY E (zZ E (qg E E E) (zA E (qg E E E) (zK (qab E ?_)))))); refine qr ?_
      exact qai (qB (zC E (zC E (zC E (zC E (zC E (zC E SubT.nil)))))) (SubO.cons (qR E (by rfl)) (SubO.cons (qR E (by rfl)) SubO.nil)) E E (noL' (noL hL) _))
     try simp only[↓cqA,cqB]at g102
     refine zY E (zY E (zY E (zZ E (qg E E E) (zZ E (qk (.inl E) E) ?_))))
     refine zY E (zY E (zY E (zZ E (qg E E E) (zA E (qg E E E) (zK (qab E ?_)))))); refine qr ?_
     exact qai (qB (zC E (zC E (zC E (zC E (zC E (zC E SubT.nil)))))) (SubO.cons (qR E (by rfl)) (SubO.cons (qR E (by rfl)) SubO.nil)) E E (noL' (noL hL) _))
    refine qd (qb (zX E (zK (qv (q6 (X.length) (fun k => k ≤ X.length) (fun k => ⟨[(1, .ptr 1 0), (3, iv (i : Int)), (4, .ptr 4 0), (5, .dat false 4 (mtDs M)), (7, iv (q : Int)), (8, .dat true 4 (mtDs X)), (10, iv (k : Int))], [(1, .box (lift false (a14D p))), (4, .box (lift false (rlD { r with policy := (q : Int) })))]⟩) (by omega) ?_ (fun k hk hpk => ?_))))))
    ·exact zR hL (zC E (zC E (zC E (zC E (zC E (zC E (zC E SubT.nil))))))) (SubO.cons (qR E (by rfl)) (SubO.cons (qR E (by rfl)) SubO.nil))
    refine qd (qd (qb (zX E (zX E (zA E (qu E qz E) (zA E (qj E E E E) (qc ?_))))))); refine qa (qq E (fun c6 => ?_) (fun c6 => ?_))
    ·try simp only[↓cqA,cqB]at c6
     obtain ⟨x, hx⟩ := qH (l := X) (k := k) (by omega)
     have hxm := List.mem_of_getElem? hx
     have hxM := hcin x hxm
     have hxu := (hMM x hxM).ul
     have hdu := qbm x.u
     refine qr (qa (qd (qv (qd (qb (zX E (qc ?_))))))); refine qa (qd (qd (qb (zX E (zK (qv (q6 (M.length) (fun j => j ≤ M.length) (fun j => ⟨[(1, .ptr 1 0), (3, iv (i : Int)), (4, .ptr 4 0), (5, .dat false 4 (mtDs M)), (7, iv (q : Int)), (8, .dat true 4 (mtDs X)), (10, iv (k : Int)), (11, bv ((M.take j).any (eqMt x))), (12, iv (j : Int))], [(1, .box (lift false (a14D p))), (4, .box (lift false (rlD { r with policy := (q : Int) })))]⟩) (by omega) ?_ (fun j hj hpj => ?_))))))))
     ·exact zR hL (zC E (zC E (zC E (zC E (zC E (zC E (zC E (zC E (zC E SubT.nil))))))))) (SubO.cons (qR E (by rfl)) (SubO.cons (qR E (by rfl)) SubO.nil))
     refine qd (qd (qb (zX E (zX E (zA E (qu E qz E) (zA E (qj E E E E) (qc ?_))))))); refine qa (qq E (fun c7 => ?_) (fun c7 => ?_))
     ·try simp only[↓cqA,cqB]at c7
      obtain ⟨y, hy⟩ := qH (l := M) (k := j) (by omega)
      have hym := List.mem_of_getElem? hy
      have hany := anyMt_take (x := x) hy
      refine qr (qa (qd (qv (qd ?_))))
      rcases Bool.eq_false_or_eq_true ((M.take j).any (eqMt x)) with l125 | l125
      ·have m125 := l125
       try simp only[↓cqA,cqB]at m125
       refine qZ 10 mixed E E E E (qf E zD (.run E (qk (v := .imm (.bool true)) (.inl E) (congrArg (fun b => some (AV.imm (Value.bool b))) l125))) (qf E zD (.run E (qk (.inl E) E)) (qf E zD (.skip E E E zD zD) (qf E zD (.skip E E E zD zD) (qf E zD (.skip E E E zD zD) (qf E zD (.skip E E E zD zD) (qf E zD (.skip E E E zD zD) ?_)))))))
       refine qf E zD (.skip E E E zD zD) (qf E zD (.skip E E E zD zD) (qf E zD (.skip E E E zD zD) (qak ⟨rfl, rfl, ?_⟩))); refine zY E (zA E (qg E E E) (zX E (zK (qd ?_))))
       rcases Bool.eq_false_or_eq_true (decide ((q : Int) = 1)) with l138 | l138
       ·have m138 := l138
        try simp only[↓cqA,cqB]at m138
        refine qZ 15 mixed E E E E (qf E zD (.run E (qk (.inl E) E)) (qf E zD (.run E (qj (r := .bool true) E E E (congrArg (fun b => some (Value.bool b)) l138))) (qf E zD (.run E (qk (.inl E) E)) (qf E zD (.want E E E zD (qk (.inl E) E)) (qf E zD (.want E E E zD (qk (.inl E) E)) (qf E zD (.want E E E zD (qp E qz E E (by omega) (qa9 hy))) (qf E zD (.want E E E zD (qA E q9 E)) (qf E zD (.want E E E zD (qA E qah E)) (qf E zD (.want E E E zD (qN E qU E)) ?_)))))))))
        refine qf E zD (.want E E E zD (qk (.inl E) E)) (qf E zD (.want E E E zD (qk (.inl E) E)) (qf E zD (.want E E E zD (qp E qz E E (by omega) (qa9 hx))) (qf E zD (.want E E E zD (qA E q9 E)) (qf E zD (.want E E E zD (qA E qah E)) ?_))))
        refine qf E zD (.want E E E zD (qN E qU E)) (qak ⟨rfl, rfl, ?_⟩); refine zZ E (qj E E E E) (zA E (qg E E E) (zK (qq E (fun c8 => ?_) (fun c8 => ?_))))
        ·try simp only[↓cqA,cqB]at c8
         exfalso
         have h1 := (hrec (by first | assumption | omega)).2 x hxm y hym
         omega
        try simp only[↓cqA,cqB]at c8
        refine qr (qP (qa (qb (zX E (zA E (qJ E E E (by omega)) (zX E (qc ?_))))))); refine qa ?_; refine ⟨?_, ?_, ?_⟩
        ·omega
        ·omega
        exact zR hL (zC E (zC E (zC E (zC E (zC E (zC E (zC E (SubT.cons (qan E (by first | (rw [hany, l125]; rfl) | (rw [hany, l125, Bool.false_or]; done))) (zC E SubT.nil))))))))) (SubO.cons (qR E (by rfl)) (SubO.cons (qR E (by rfl)) SubO.nil))
       have m138 := l138
       try simp only[↓cqA,cqB]at m138
       refine qZ 15 mixed E E E E (qf E zD (.run E (qk (.inl E) E)) (qf E zD (.run E (qj (r := .bool false) E E E (congrArg (fun b => some (Value.bool b)) l138))) (qf E zD (.run E (qk (.inl E) E)) (qf E zD (.skip E E E zD zD) (qf E zD (.skip E E E zD zD) (qf E zD (.skip E E E zD zD) (qf E zD (.skip E E E zD zD) (qf E zD (.skip E E E zD zD) (qf E zD (.skip E E E zD zD) (qf E zD (.skip E E E zD zD) (qf E zD (.skip E E E zD zD) ?_)))))))))))
       refine qf E zD (.skip E E E zD zD) (qf E zD (.skip E E E zD zD) (qf E zD (.skip E E E zD zD) (qf E zD (.skip E E E zD zD) (qak ⟨rfl, rfl, ?_⟩))))
       refine zY E (zA E (qg E E E) (zK (qab E (qr (qP (qa ?_)))))); refine qb (zX E (zA E (qJ E E E (by omega)) (zX E (zK ?_)))); refine ⟨?_, ?_, ?_⟩
       ·omega
       ·omega
       exact zR hL (zC E (zC E (zC E (zC E (zC E (zC E (zC E (SubT.cons (qan E (by first | (rw [hany, l125]; rfl) | (rw [hany, l125, Bool.false_or]; done))) (zC E SubT.nil))))))))) (SubO.cons (qR E (by rfl)) (SubO.cons (qR E (by rfl)) SubO.nil))
      have m125 := l125
      try simp only[↓cqA,cqB]at m125
      refine qZ 10 mixed E E E E (qf E zD (.run E (qk (v := .imm (.bool false)) (.inl E) (congrArg (fun b => some (AV.imm (Value.bool b))) l125))) (qf E zD (.run E (qk (.inl E) E)) (qf E zD (.want E E E zD (qk (.inl E) E)) (qf E zD (.want E E E zD (qk (.inl E) E)) (qf E zD (.want E E E zD (qp E qz E E (by omega) (qa9 hx))) (qf E zD (.want E E E zD (qC E qV E E)) (qf E zD (.want E E E zD (qk (.inl E) E)) (qf E zD (.want E E E zD (qk (.inl E) E)) (qf E zD (.want E E E zD (qp E qz E E (by omega) (qa9 hy))) ?_)))))))))
      refine qf E zD (.want E E E zD (qC E qV E E)) (qak ⟨rfl, rfl, ?_⟩); refine zZ E (qY (avs := [_, _]) true E qd1 E E (EqMatch_ok x y (hcd x hxm) (hcw x hxm) (hMw y hym)) (fun _ => rfl) E) (zA E (qg E E E) (zX E (zK (qd ?_))))
      rcases Bool.eq_false_or_eq_true (decide ((q : Int) = 1)) with l138 | l138
      ·have m138 := l138
       try simp only[↓cqA,cqB]at m138
       refine qZ 15 mixed E E E E (qf E zD (.run E (qk (.inl E) E)) (qf E zD (.run E (qj (r := .bool true) E E E (congrArg (fun b => some (Value.bool b)) l138))) (qf E zD (.run E (qk (.inl E) E)) (qf E zD (.want E E E zD (qk (.inl E) E)) (qf E zD (.want E E E zD (qk (.inl E) E)) (qf E zD (.want E E E zD (qp E qz E E (by omega) (qa9 hy))) (qf E zD (.want E E E zD (qA E q9 E)) (qf E zD (.want E E E zD (qA E qah E)) (qf E zD (.want E E E zD (qN E qU E)) ?_)))))))))
       refine qf E zD (.want E E E zD (qk (.inl E) E)) (qf E zD (.want E E E zD (qk (.inl E) E)) (qf E zD (.want E E E zD (qp E qz E E (by omega) (qa9 hx))) (qf E zD (.want E E E zD (qA E q9 E)) (qf E zD (.want E E E zD (qA E qah E)) ?_))))
       refine qf E zD (.want E E E zD (qN E qU E)) (qak ⟨rfl, rfl, ?_⟩); refine zZ E (qj E E E E) (zA E (qg E E E) (zK (qq E (fun c8 => ?_) (fun c8 => ?_))))
       ·try simp only[↓cqA,cqB]at c8
        exfalso
        have h1 := (hrec (by first | assumption | omega)).2 x hxm y hym
        omega
       try simp only[↓cqA,cqB]at c8
       refine qr (qP (qa (qb (zX E (zA E (qJ E E E (by omega)) (zX E (qc ?_))))))); refine qa ?_; refine ⟨?_, ?_, ?_⟩
       ·omega
       ·omega
       exact zR hL (zC E (zC E (zC E (zC E (zC E (zC E (zC E (SubT.cons (qan E (by first | (rw [hany, l125]; rfl) | (rw [hany, l125, Bool.false_or]; done))) (zC E SubT.nil))))))))) (SubO.cons (qR E (by rfl)) (SubO.cons (qR E (by rfl)) SubO.nil))
      have m138 := l138
      try simp only[↓cqA,cqB]at m138
      refine qZ 15 mixed E E E E (qf E zD (.run E (qk (.inl E) E)) (qf E zD (.run E (qj (r := .bool false) E E E (congrArg (fun b => some (Value.bool b)) l138))) (qf E zD (.run E (qk (.inl E) E)) (qf E zD (.skip E E E zD zD) (qf E zD (.skip E E E zD zD) (qf E zD (.skip E E E zD zD) (qf E zD (.skip E E E zD zD) (qf E zD (.skip E E E zD zD) (qf E zD (.skip E E E zD zD) (qf E zD (.skip E E E zD zD) (qf E zD (.skip E E E zD zD) ?_)))))))))))
      refine qf E zD (.skip E E E zD zD) (qf E zD (.skip E E E zD zD) (qf E zD (.skip E E E zD zD) (qf E zD (.skip E E E zD zD) (qak ⟨rfl, rfl, ?_⟩))))
      refine zY E (zA E (qg E E E) (zK (qab E (qr (qP (qa ?_)))))); refine qb (zX E (zA E (qJ E E E (by omega)) (zX E (zK ?_)))); refine ⟨?_, ?_, ?_⟩
      ·omega
      ·omega
      exact zR hL (zC E (zC E (zC E (zC E (zC E (zC E (zC E (SubT.cons (qan E (by first | (rw [hany, l125]; rfl) | (rw [hany, l125, Bool.false_or]; done))) (zC E SubT.nil))))))))) (SubO.cons (qR E (by rfl)) (SubO.cons (qR E (by rfl)) SubO.nil))
     try simp only[↓cqA,cqB]at c7
     refine qQ (qn (qn (qX ?_))); refine qa (qd (qd (qb (zX E (zA E (qal E E) (zK ?_)))))); refine qq E (fun c9 => ?_) (fun c9 => ?_)
     ·try simp only[↓cqA,cqB]at c9
      exfalso
      have h2 : (M.take j).any (eqMt x) = true := by
       rw [List.take_of_length_le (by omega)]
       exact List.any_eq_true.2 ⟨x, hxM, (eqMt_iff (hcd x hxm)).2 E⟩
      rw [h2] at c9; cases c9
     try simp only[↓cqA,cqB]at c9
     refine qr (qa (qd (qb (zX E (zK (qv ?_)))))); refine q6 (x.u.length) (fun m => m ≤ x.u.length) (fun m => ⟨[(1, .ptr 1 0), (3, iv (i : Int)), (4, .ptr 4 0), (5, .dat false 4 (mtDs M)), (7, iv (q : Int)), (8, .dat true 4 (mtDs X)), (10, iv (k : Int)), (13, iv (m : Int))], [(1, .box (lift false (a14D p))), (4, .box (lift false (rlD { r with policy := (q : Int) })))]⟩) (by omega) ?_ (fun m hm hpm => ?_)
     ·exact zR hL (zC E (zC E (zC E (zC E (zC E (zC E (zC E (zC E SubT.nil)))))))) (SubO.cons (qR E (by rfl)) (SubO.cons (qR E (by rfl)) SubO.nil))
     refine qd (qd (qb (zX E (zX E (zX E (zA E (qp E qz E E (by omega) (qa9 hx)) (zA E (qA E qaY E) ?_))))))); refine zA E (qN E qbM E) (zA E (qu E qaL E) (zA E (qj E E E E) (zK (qq E (fun c10 => ?_) (fun c10 => ?_)))))
     ·try simp only[↓cqA,cqB]at c10
      obtain ⟨z, hz⟩ := qH (l := x.u) (k := m) (by omega)
      refine qr (qa (qd (qv (qd ?_))))
      rcases Bool.eq_false_or_eq_true (decide ((q : Int) = 2)) with l167 | l167
      ·have m167 := l167
       try simp only[↓cqA,cqB]at m167
       refine qZ 13 mixed E E E E (qf E zD (.run E (qk (.inl E) E)) (qf E zD (.run E (qj (r := .bool true) E E E (congrArg (fun b => some (Value.bool b)) l167))) (qf E zD (.run E (qk (.inl E) E)) (qf E zD (.want E E E zD (qe E qcW E)) (qf E zD (.want E E E zD (ql E qbM E E E E E)) (qf E zD (.want E E E zD (qk (.inl E) E)) (qf E zD (.want E E E zD (qk (.inl E) E)) (qf E zD (.want E E E zD (qp E qz E E (by omega) (qa9 hx))) (qf E zD (.want E E E zD (qA E qaY E)) (qf E zD (.want E E E zD (qN E qbM E)) ?_))))))))))
       refine qf E zD (.want E E E zD (qk (.inl E) E)) (qf E zD (.want E E E zD (qp E qaL E E (by omega) (inDs_get hz))) (qf E zD (.want E E E zD (qN E qU E)) ?_))
       refine qak ⟨rfl, rfl, ?_⟩; refine awps_gcallP (avs := [_, _]) true E E E zD E E zD en_almagestref0_In E E (In_ok p.G (by omega) z) E (qbX .nil) (by rintro r O' ⟨_, rfl⟩; exact frB E) (by rintro - r O' ⟨⟨i, rfl, _⟩, rfl⟩; exact ⟨rfl, rfl⟩) ?_
       rintro r3 O' ⟨⟨i3, rfl, hi3⟩, rfl⟩
       refine zZ E (qj E E E E) (zA E (qg E E E) (zK (qq E (fun c11 => ?_) (fun c11 => ?_))))
       ·try simp only[↓cqA,cqB]at c11
        exfalso
        exact hfst (by first | assumption | omega) x hxm z (List.mem_of_getElem? hz) (hi3.1 (by omega))
       try simp only[↓cqA,cqB]at c11
       refine qr (qP (qa (qb (zX E (zA E (qJ E E E (by omega)) (zX E (qc ?_))))))); refine qa ?_; refine ⟨?_, ?_, ?_⟩
       ·omega
       ·omega
       exact zR hL (zC E (zC E (zC E (zC E (zC E (zC E (zC E (zC E SubT.nil)))))))) (SubO.cons (qR E (by rfl)) (SubO.cons (qR E (by rfl)) SubO.nil))
      have m167 := l167
      try simp only[↓cqA,cqB]at m167
      refine qZ 13 mixed E E E E (qf E zD (.run E (qk (.inl E) E)) (qf E zD (.run E (qj (r := .bool false) E E E (congrArg (fun b => some (Value.bool b)) l167))) (qf E zD (.run E (qk (.inl E) E)) (qf E zD (.skip E E E zD zD) (qf E zD (.skip E E E zD zD) (qf E zD (.skip E E E zD zD) (qf E zD (.skip E E E zD zD) (qf E zD (.skip E E E zD zD) (qf E zD (.skip E E E zD zD) (qf E zD (.skip E E E zD zD) (qf E zD (.skip E E E zD zD) ?_)))))))))))
      refine qf E zD (.skip E E E zD zD) (qf E zD (.skip E E E zD zD) (qak ⟨rfl, rfl, ?_⟩)); refine zY E (zY E (zA E (qg E E E) ?_))
      refine zK (qab E (qr (qP (qa (qb (zX E ?_)))))); refine zA E (qJ E E E (by omega)) (zX E (zK ?_)); refine ⟨?_, ?_, ?_⟩
      ·omega
      ·omega
      exact zR hL (zC E (zC E (zC E (zC E (zC E (zC E (zC E (zC E SubT.nil)))))))) (SubO.cons (qR E (by rfl)) (SubO.cons (qR E (by rfl)) SubO.nil))
     try simp only[↓cqA,cqB]at c10
     refine qQ (qn (qn (qX ?_))); refine qP (qa (qb (zX E (zA E (qJ E E E (by omega)) (zX E (zK ?_)))))); refine ⟨?_, ?_, ?_⟩
     ·omega
     ·omega
     exact zR hL (zC E (zC E (zC E (zC E (zC E (zC E (zC E SubT.nil))))))) (SubO.cons (qR E (by rfl)) (SubO.cons (qR E (by rfl)) SubO.nil))
    try simp only[↓cqA,cqB]at c6
    refine qQ (qn (qn (qX ?_))); refine qP (qa (qb (zX E (zA E (qJ E E E (by omega)) (zX E (zK ?_)))))); refine ⟨?_, (q : Int), ?_, ?_⟩
    ·omega
    ·omega
    exact zR hL (zC E (zC E (zC E (zC E (zC E SubT.nil))))) (SubO.cons (qR E (by rfl)) (SubO.cons (qR E (by rfl)) SubO.nil))
   try simp only[↓cqA,cqB]at c4
   refine qQ (qn (qn (qX ?_))); refine qP (qa (qb (zX E (zA E (qJ E E E (by omega)) (zX E (zK ?_)))))); refine ⟨?_, ?_, ?_⟩
   ·omega
   ·omega
   exact zR hL (zC E (zC E SubT.nil)) (SubO.cons (qR E (by rfl)) SubO.nil)
  try simp only[↓cqA,cqB]at c1
  refine qQ (qn (qn (qX ?_))); refine qa (qd (qb (qE (avs := [_]) true E E E zD qdv E E (rName_ok ⟨#[97]⟩) E E (zX E (qt 183 E (fun g183 => ?_) (fun g183 => ?_))))))
  ·try simp only[↓cqA,cqB]at g183
   refine zZ E (qY (avs := []) true E en_almagestlaw14_wakes E E (wakes14_ok) (fun _ => rfl) E) (zA E (qg E E E) (zX E (zK (qo (zI hL (qh E qi) ?_ ?_)))))
   ·rfl
   first
   | exact ⟨rfl, rfl⟩
   | trace_state
  try simp only[↓cqA,cqB]at g183
  rw [rName_a] at g183; cases g183
 try simp only[↓cqA,cqB]at g21
 refine zY E (zY E (zA E (qg E E E) (zK (qab E (qQ (qn (qn (qX ?_)))))))); refine qa (qd (qb (qE (avs := [_]) true E E E zD qdv E E (rName_ok ⟨#[97]⟩) E E (zX E (qt 183 E (fun g183 => ?_) (fun g183 => ?_))))))
 ·try simp only[↓cqA,cqB]at g183
  refine zZ E (qY (avs := []) true E en_almagestlaw14_wakes E E (wakes14_ok) (fun _ => rfl) E) (zA E (qg E E E) (zX E (zK (qo (zI hL (qh E qi) ?_ ?_)))))
  ·rfl
  first
  | exact ⟨rfl, rfl⟩
  | trace_state
 try simp only[↓cqA,cqB]at g183
 rw [rName_a] at g183; cases g183
end Go.Proofs.YtpgceiijoedppaaGreat

namespace Go.Proofs.YtpgceiijoedppaaGreat
open Go Go.RowKit
theorem rdr_sp (w : World) (n : Nat) : Rdr Tryz.prog w n 53 2 (fun p : Int × Int => [.imm (.int .i64 p.1), .imm (.int .i64 p.2)]) (fun p => i64 p.1 ∧ i64 p.2) := by
 refine Rdr.map (fun x : Int × Int × Unit => (x.1, x.2.1)) (Rdr.struct st_api_Span (fun _ => rfl) fun m hm => RdrF.cons (Rdr.int ul_int) (RdrF.cons (Rdr.int ul_int) RdrF.nil)) (fun _ => rfl) ?_ ?_
 ·rintro ⟨a, b, _⟩ _; rfl
 ·rintro ⟨a, b, _⟩ ⟨h1, h2, _⟩; exact ⟨h1, h2⟩
theorem rdr_ft (w : World) (n : Nat) : Rdr Tryz.prog w n 69 6 ftD Ft.wf := by
 refine Rdr.map (fun x : Tm × (Int × Int) × Unit => ⟨x.1, x.2.1.1, x.2.1.2⟩) (Rdr.struct st_api_Fact (fun _ => rfl) fun m hm => RdrF.cons (rdr_tm w m) (RdrF.cons (rdr_sp w m) RdrF.nil)) (fun _ => rfl) ?_ ?_
 ·rintro ⟨a, b, _⟩ _; rfl
 ·rintro ⟨a, b, _⟩ ⟨h1, h2, _⟩; exact ⟨h1, h2⟩
theorem rdr_kp (w : World) (n : Nat) : Rdr Tryz.prog w n 71 7 kpD Kp.wf := by
 refine Rdr.map (fun x : Int × Ft × Unit => ⟨x.1, x.2.1⟩) (Rdr.struct st_api_Kept (fun _ => rfl) fun m hm => RdrF.cons (Rdr.int ul_int) (RdrF.cons (rdr_ft w m) RdrF.nil)) (fun _ => rfl) ?_ ?_
 ·rintro ⟨a, b, _⟩ _; rfl
 ·rintro ⟨a, b, _⟩ ⟨h1, h2, _⟩; exact ⟨h1, h2⟩
theorem rdr_kps (w : World) (n : Nat) : Rdr Tryz.prog w n 22 1 (fun l : List Kp => [.sl 7 (kpDs l)]) (fun l => qba l ∧ ∀ g ∈ l, g.wf) := by
 refine Rdr.map id (Rdr.slice qaq zD fun k _ => rdr_kp w k) (fun _ => rfl) (fun _ _ => rfl) ?_
 rintro l ⟨h1, h2⟩
 rw [by_api_Kept] at h1
 exact ⟨qdU h1 zD, h2⟩
theorem rdr_ints (w : World) (n : Nat) : Rdr Tryz.prog w n 29 1 (fun l : List Int => [.sl 1 (inDs l)]) (fun l => qba l ∧ ∀ x ∈ l, i64 x) := by
 refine Rdr.map id (Rdr.slice qaL zD fun k _ => Rdr.int ul_int) (fun _ => rfl) (fun _ _ => rfl) ?_
 rintro l ⟨h1, h2⟩
 rw [by_int] at h1
 exact ⟨qdU h1 zD, h2⟩
end Go.Proofs.YtpgceiijoedppaaGreat
