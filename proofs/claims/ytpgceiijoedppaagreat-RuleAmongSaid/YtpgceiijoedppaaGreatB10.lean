/- Part 10 of the proof: Fs, Ft, Fv, Fw, Fx, Fy, Fz, Ga, Gb, Gc, Gd, Rdb, Gf, Gg, Gi, Gj, Gm, Gn, Hb, He, Hg. -/
import Derived.Test.YtpgceiijoedppaaGreatB9
set_option linter.unusedVariables false
set_option linter.unusedSimpArgs false
set_option maxRecDepth 8000
namespace Go.Proofs.YtpgceiijoedppaaGreat
open Go
theorem IndexFunc_st_ok (B : Bool) (ts : List ByteArray) (es : List (List D)) (hes : es = ts.map (fun s => [D.imm (.string s)])) (hlen : ts.length ≤ 140737488351232) (g : FuncId) (caps : List AV) (hen : qW Tryz.prog g) (Os : Nat → List (Nat × Ob)) (p : Nat → Bool) (hO : Thread B caps Os)
  (hstep : ∀ k u, ts[k]? = some u → (∀ j, j < k → p j = false) → AC Tryz.prog g (sv u :: caps) (Os k) (fun r O => r = bv (p k) ∧ O = Os (k + 1))) :
  AC Tryz.prog 238 [.dat false 1 es, .fn g caps] (Os 0) (fun r O => ∃ m n i, m ≤ ts.length ∧ (∀ j, j < m → p j = false) ∧ ((m < ts.length ∧ p m = true ∧ i = (m : Int) ∧ n = m + 1) ∨ (m = ts.length ∧ i = -1 ∧ n = m)) ∧ r = iv i ∧ O = Os n) := by
 have hl : es.length = ts.length := by rw [hes, List.length_map]
 refine qF Tryz.func238 E Tryz.ntmps238 zL fun c hL hQ hDD => (qd (qb (zX E (zK (qd (qd ?_)))))); refine qb (zX E (zA E (qu E qag E) (zX E (zK (qv (q6 (ts.length) (fun k => k ≤ ts.length ∧ ∀ j, j < k → p j = false) (fun k => ⟨[(0, .dat false 1 es), (1, .fn g caps), (7, iv es.length), (8, iv (k : Int))], Os k⟩) (⟨by omega, fun j hj => absurd hj (by omega)⟩) ?_ (fun k hk hp => ?_)))))))
 ·exact qB (zC E (zC E (zC E (zC E SubT.nil)))) (fun _ _ h => h) (by simp [allT, AV.allL, hO.all]) (hO.self _) (fun l hl => by rw [hO.dom]; exact (hL l).1 hl)
 refine qd (qb (zA E (qj E E E E) (zK (qd (qq E (fun c0 => ?_) (fun c0 => ?_))))))
 ·try simp only[↓cqA,cqB]at c0
  obtain ⟨u, hu⟩ := qH (l := ts) (k := k) (by omega)
  refine qr (qa (qd (qv (qd (qb (zX E (zX E ?_))))))); refine zK (qd (qb (zX E (zX E (zX E ?_)))))
  refine zA E (qp E qag E E (by omega) (by rw [hes, List.getElem?_map]; exact congrArg (Option.map (fun s => [D.imm (.string s)])) hu)) ?_; refine zA E (qN E qaf E) ?_; refine qaj (avs := [_]) B E E E zD hen E E (hstep k u hu hp.2) (by rw [List.cons_append, List.nil_append]; simp only [AV.cvs, hO.cvs]; rfl) (hO.pass k) (by rintro r O' ⟨_, rfl⟩ l hl; left; rw [hO.dom] at hl ⊢; exact hl) (by rintro hB r O' ⟨rfl, rfl⟩; exact ⟨rfl, hO.q hB _⟩) ?_
  rintro r O' ⟨rfl, rfl⟩
  refine zK (qq E (fun c1 => ?_) (fun c1 => ?_))
  ·try simp only[↓cqA,cqB]at c1
   refine qd (qb (zX E (zX E (zK (qo (qS (qm (qm (qS (qm ?_))))))))))
   change retQ _ _ _ _ _ _ _
   refine retO (.inl E) (qh E qi) SubO.left rfl (hO.self _) (fun l hl => by rw [hO.dom]; exact (hL l).1 hl) ?_
   exact ⟨k, _, _, by omega, hp.2, .inl ⟨by omega, c1, rfl, rfl⟩, rfl, rfl⟩
  try simp only[↓cqA,cqB]at c1
  refine qr (qP (qa (qb (zA E (qJ E E E (by omega)) (zX E (zK ?_)))))); refine ⟨?_, ?_, ?_⟩
  ·omega
  ·refine ⟨by omega, fun j hj => ?_⟩
   by_cases hjk : j < k
   ·exact hp.2 j hjk
   ·rw [show j = k by omega]; exact c1
  exact qB (zC E (zC E (zC E (zC E SubT.nil)))) (SubO.left) (by simp [allT, AV.allL, hO.all]) (hO.self _) (fun l hl => by rw [hO.dom]; exact (hL l).1 hl)
 try simp only[↓cqA,cqB]at c0
 refine qQ (qn (qn (qX ?_))); refine qa (qd (qb (zX E (zK (qo ?_)))))
 change retQ _ _ _ _ _ _ _
 refine retO (.inl E) (qh E qi) (fun _ _ h => h) E (hO.self _) (fun l hl => by rw [hO.dom]; exact (hL l).1 hl) ?_
 exact ⟨k, _, _, by omega, hp.2, .inr ⟨by omega, rfl, rfl⟩, rfl, rfl⟩
theorem ContainsFunc_st_ok (B : Bool) (ts : List ByteArray) (es : List (List D)) (hes : es = ts.map (fun s => [D.imm (.string s)])) (hlen : ts.length ≤ 140737488351232) (g : FuncId) (caps : List AV) (hen : qW Tryz.prog g) (Os : Nat → List (Nat × Ob)) (p : Nat → Bool) (hO : Thread B caps Os)
  (hstep : ∀ k u, ts[k]? = some u → (∀ j, j < k → p j = false) → AC Tryz.prog g (sv u :: caps) (Os k) (fun r O => r = bv (p k) ∧ O = Os (k + 1))) :
  AC Tryz.prog 175 [.dat false 1 es, .fn g caps] (Os 0) (fun r O => ∃ m n b, m ≤ ts.length ∧ (∀ j, j < m → p j = false) ∧ ((m < ts.length ∧ p m = true ∧ b = true ∧ n = m + 1) ∨ (m = ts.length ∧ b = false ∧ n = m)) ∧ r = bv b ∧ O = Os n) := by
 refine qF Tryz.func175 E Tryz.ntmps175 zL fun c hL hQ hDD => (qd (qb (zX E (zK (qd (qb ?_)))))); refine zX E (zX E ?_)
 refine qaj (avs := [_, _]) B E E E zD qdY E E (IndexFunc_st_ok B ts es hes hlen g caps hen Os p hO hstep) (by simp only [List.append_nil, AV.cvs, AV.cv, hO.cvs]; rfl) (hO.pass 0) (by rintro r O' ⟨m, n, i, _, _, _, _, rfl⟩ l hl; left; rw [hO.dom] at hl ⊢; exact hl) (by rintro hB r O' ⟨m, n, i, _, _, _, rfl, rfl⟩; exact ⟨rfl, hO.q hB _⟩) ?_
 rintro r O' ⟨m, n, i, hm, hf, hc, rfl, rfl⟩
 refine zA E (qj E E E E) (zX E (zK (qo ?_)))
 change retQ _ _ _ _ _ _ _
 refine retO (.inl E) (qh E qi) SubO.left rfl (hO.self _) (fun l hl => by rw [hO.dom]; exact (hL l).1 hl) ?_; refine ⟨m, n, _, hm, hf, ?_, rfl, rfl⟩
 rcases hc with ⟨h1, h2, rfl, h3⟩ | ⟨h1, rfl, h3⟩
 ·exact .inl ⟨h1, h2, by simp, h3⟩
 ·exact .inr ⟨h1, by simp, h3⟩
def stepB (l : List Bd) (i : Nat) : Bool := match l[i]? with
 | some b => varB b.name && mayT b.t && (decide (i = 0) || match l[i - 1]? with | some a => ltS a.name b.name | none => true)
 | none => true
def mayB (l : List Bd) : Bool := decide (l.length ≤ 16) && (List.range l.length).all (stepB l) && !(noteL 5 (l.map Bd.t)).any (hasB l)
theorem steps_bok {l : List Bd} (h : ∀ j, j < l.length → stepB l j = true) (hl : l.length ≤ 16) (hw : ∀ b ∈ l, b.wf) : BOk l := by
  have adj : ∀ (i : Nat) (a b : Bd), l[i]? = some a → l[i + 1]? = some b → ltS a.name b.name = true := fun i a b ha hb => by
    have := h (i + 1) (List.getElem?_eq_some_iff.1 hb).1
    simp only [stepB, hb, Nat.add_sub_cancel, ha, Bool.and_eq_true] at this
    simpa using this.2
  have far : ∀ (n i : Nat) (a b : Bd), l[i]? = some a → l[i + 1 + n]? = some b → ltS a.name b.name = true := fun n => by
    induction n with
    | zero => intro i a b ha hb; exact adj i a b ha (by simpa using hb)
    | succ n ih =>
      intro i a b ha hb
      have hlt := (List.getElem?_eq_some_iff.1 hb).1
      obtain ⟨c, hc⟩ := qH (l := l) (k := i + 1 + n) (by omega)
      exact ltS_trans (ih i a c ha hc) (adj (i + 1 + n) c b hc (by rw [show i + 1 + n + 1 = i + 1 + (n + 1) by omega]; exact hb))
  refine ⟨List.pairwise_iff_getElem.2 fun i j hi hj hij => ?_, by omega, fun b hb => ⟨hw b hb, ?_⟩⟩
  · exact far (j - i - 1) i _ _ (List.getElem?_eq_getElem hi) (by rw [show i + 1 + (j - i - 1) = j by omega]; exact List.getElem?_eq_getElem hj)
  · obtain ⟨i, hi⟩ := List.getElem?_of_mem hb
    have := h i (List.getElem?_eq_some_iff.1 hi).1
    simp only [stepB, hi, Bool.and_eq_true] at this
    exact this.1.2
theorem mayB_bok {l : List Bd} (h : mayB l = true) (hw : ∀ b ∈ l, b.wf) : BOk l := by
 simp only [mayB, Bool.and_eq_true, decide_eq_true_eq, List.all_eq_true, List.mem_range] at h
 exact steps_bok (fun j hj => h.1.2 j hj) h.1.1 hw
theorem noteL_sum {ts : List Tm} (h : ∀ t ∈ ts, mayT t = true) : (ts.map (nodes 5)).sum ≤ 25 * ts.length := by
  induction ts with
  | nil => simp
  | cons a ts ih =>
    have h1 := (mayT_dle (h a (by simp))).2
    have h2 := ih (fun t ht => h t (by simp [ht]))
    simp only [List.map_cons, List.sum_cons, List.length_cons]; omega
theorem wfs_of : ∀ {ts : List Tm}, (∀ t ∈ ts, t.wf) → Tm.wfs ts
 | [], _ => trivial
 | t :: ts, h => ⟨(Tm.wf0_iff t).2 (h t (by simp)), wfs_of (fun u hu => h u (by simp [hu]))⟩
theorem bindMay1_ok (l : List Bd) (hl : BOk l) (s : ByteArray) : AC Tryz.prog 173 [sv s, .ptr 1 0] [(1, .box [bdA l])] (fun r O => r = bv (hasB l s) ∧ O = [(1, .box [bdA l])]) := by
 have hln := hl.len
 refine qF Tryz.func173 E Tryz.ntmps173 zL fun c hL hQ hDD => (qd (qb (zX E (zK (qd (qb ?_)))))); refine zA E (ql E qap E E E E E) (zX E (qE (avs := [_, _]) false E E E zD en_bind_find E E (find_ok l s hl.ris (by omega)) E E (zX E (zA E (qay E E E) (zA E (qay E E E) ?_)))))
 refine zX E (zX E (zK (qd (qb (zX E (zX E ?_)))))); refine zK (qo ?_)
 change retQ _ _ _ _ _ _ _
 refine retO (O' := [(1, _)]) (.inl E) (qh E qi) (SubO.cons E SubO.nil) ?_ ?_ (LO hL E) ?_
 ·rfl
 ·rfl
 exact ⟨rfl, rfl⟩
theorem any_found {L N : List ByteArray} {p : ByteArray → Bool} (hm : ∀ s, s ∈ L ↔ s ∈ N) {m n : Nat} {b : Bool} (hf : ∀ j, j < m → (match L[j]? with | some s => p s | none => false) = false) (hc : (m < L.length ∧ (match L[m]? with | some s => p s | none => false) = true ∧ b = true ∧ n = m + 1) ∨ (m = L.length ∧ b = false ∧ n = m)) : b = N.any p := by
 rw [Bool.eq_iff_iff, List.any_eq_true]
 rcases hc with ⟨h1, h2, rfl, _⟩ | ⟨h1, rfl, _⟩
 ·obtain ⟨s, hs⟩ := qH h1
  rw [hs] at h2
  exact ⟨fun _ => ⟨s, (hm s).1 (List.mem_of_getElem? hs), h2⟩, fun _ => rfl⟩
 ·constructor
  ·intro h; cases h
  ·rintro ⟨s, hs, hp⟩
   obtain ⟨j, hj⟩ := List.getElem?_of_mem ((hm s).2 hs)
   have := hf j (by rw [h1]; exact (List.getElem?_eq_some_iff.1 hj).1)
   rw [hj] at this
   simp only at this
   rw [this] at hp; cases hp
theorem rising_len {L N : List ByteArray} (hr : Rising L) (hm : ∀ s, s ∈ L ↔ s ∈ N) : L.length ≤ N.length := by
 have hnd : L.Nodup := by
  refine hr.imp fun {a b} h e => ?_
  subst e; exact List.lt_irrefl _ h
 exact hnd.length_le_of_subset (fun s hs => (hm s).1 hs)
theorem ltS_no {a b : ByteArray} (h : (Op.bytesLess a.toList b.toList || a.toList == b.toList) = true) : ltS b a = false := by
  cases hc : ltS b a with
  | false => rfl
  | true =>
    simp only [Bool.or_eq_true, str_beq_t] at h
    rcases h with h | h
    · have := ltS_trans hc (show ltS a b = true from h); rw [ltS_irrefl] at this; cases this
    · rw [h, ltS_irrefl] at hc; cases hc
theorem ltS_yes {a b : ByteArray} (h : (Op.bytesLess a.toList b.toList || a.toList == b.toList) = false) : ltS b a = true := by
 simp only [Bool.or_eq_false_iff, str_beq_f] at h
 rcases ltS_tri a b with h1 | h1 | h1
 ·rw [show ltS a b = false from h.1] at h1; cases h1
 ·exact absurd h1 h.2
 ·exact h1
theorem stepB_get {l : List Bd} {k : Nat} {u : Bd} (h : l[k]? = some u) : stepB l k = (varB u.name && mayT u.t && (decide (k = 0) || match l[k - 1]? with | some a => ltS a.name u.name | none => true)) := by
 rw [stepB, h]
theorem bindMay_ok (l : List Bd) (hw : ∀ b ∈ l, b.wf) : PF 114 [bdA l] (bv (mayB l)) := by
 have hlen := qaR l
 refine qF Tryz.func114 E Tryz.ntmps114 zL fun c hL hQ hDD => (qd (qb (qy E E zD (qaa 1 E E E) E (zX E (zK (qd ?_)))))); refine qd (qb (zA E (ql E qap E E E E E) (zA E (qu E qO E) (zA E (qj E E E E) (zK (qq E (fun c0 => ?_) (fun c0 => ?_)))))))
 ·try simp only[↓cqA,cqB]at c0
  refine qd (qb (zX E (zK (qo (qm (zI hL (qh E qi) ?_ ?_))))))
  ·rfl
  refine ⟨qT ?_, rfl⟩
  symm
  rw [mayB, decide_eq_false (by omega)]; rfl
 try simp only[↓cqA,cqB]at c0
 refine qr (qa (qd (qd (qb (zA E (ql E qap E E E E E) (zA E (qu E qO E) (zX E (zK (qv (q6 (l.length) (fun k => k ≤ l.length ∧ ∀ j, j < k → stepB l j = true) (fun k => ⟨[(1, .ptr 1 0), (9, bdA l), (10, iv (bdDs l).length), (11, iv (k : Int))], [(1, .box [bdA l])]⟩) (⟨by omega, fun j hj => absurd hj (by omega)⟩) ?_ (fun k hk hp => ?_)))))))))))
 ·exact zR hL (zC E (zC E (zC E (zC E SubT.nil)))) (SubO.cons (qR E (by rfl)) SubO.nil)
 refine qd (qb (zA E (qj E E E E) (zK (qd (qq E (fun c1 => ?_) (fun c1 => ?_))))))
 ·try simp only[↓cqA,cqB]at c1
  obtain ⟨u, hu⟩ := qH (l := l) (k := k) (by omega)
  have huw := hw u (List.mem_of_getElem? hu)
  refine qr (qa (qd (qv (qd (qb (zX E (zA E (qp E qO E E (by omega) (qbe hu)) ?_))))))); refine zA E (qC E qaT E E) (qy E E zD (qaD 4 E qby E) E (zX E (qae E E E qaT E E E E E E E E E (zK (qd ?_)))))
  rcases Bool.eq_false_or_eq_true (varB u.name) with l18 | l18
  ·have m18 := l18
   try simp only[↓cqA,cqB]at m18
   rcases Bool.eq_false_or_eq_true (mayT u.t) with l23 | l23
   ·have m23 := l23
    try simp only[↓cqA,cqB]at m23
    rcases Bool.eq_false_or_eq_true (decide ((k : Int) > 0)) with l28 | l28
    ·have m28 := l28
     try simp only[↓cqA,cqB]at m28
     obtain ⟨a, ha⟩ := qH (l := l) (k := k - 1) (by omega)
     have ha2 : l[((k : Int) - 1).toNat]? = some a := by rw [show ((k : Int) - 1).toNat = k - 1 by omega]; exact ha
     refine qZ 22 mixed E E E E ?_; refine qf E zD (.run E (qe E qaG E)) ?_; refine qf E zD (.run E (ql E qaf E E E E E)) ?_; refine qf E zD (.run E (qY (avs := [_]) true E en_term_Var E E (by have hh := Var_ok u.name; rw [l18] at hh; exact hh) (fun _ => rfl) E)) ?_; refine qf E zD (.run E (qal E E)) ?_; refine qf E zD (.run E (qk (.inl E) E)) ?_
     refine qf E zD (.want E E E zD (qe E qaZ E)) ?_; refine qf E zD (.want E E E zD (ql E qw E E E E E)) ?_; refine qf E zD (.want E E E zD (qY (avs := [_]) true E qcL E E (by have hh := May_ok u.t huw.2; rw [l23] at hh; exact hh) (fun _ => rfl) E)) ?_; refine qf E zD (.want E E E zD (qal E E)) ?_; refine qf E zD (.run E (qg E E E)) (qf E zD (.run E (qk (.inl E) E)) (qf E zD (.want E E E zD (qk (.inl E) E)) (qf E zD (.want E E E zD (qj (r := .bool true) E E E (congrArg (fun b => some (Value.bool b)) l28))) (qf E zD (.want E E E zD (qk (.inl E) E)) (qf E zD (.want E E E zD (qe E qaG E)) (qf E zD (.want E E E zD (ql E qaf E E E E E)) (qf E zD (.want E E E zD (ql E qap E E E E E)) (qf E zD (.want E E E zD (qk (.inl E) E)) (qf E zD (.want E E E zD (qa0 E E E (by omega))) (qf E zD (.want E E E zD (qp E qO E E (by omega) (qbe ha2))) ?_))))))))))
     refine qf E zD (.want E E E zD (qA E qaG E)) (qf E zD (.want E E E zD (qN E qaf E)) (qak ⟨rfl, rfl, ?_⟩)); refine zZ E (qbV E E E E) (zZ E (qg E E E) (zA E (qg E E E) (zK (qq E (fun c2 => ?_) (fun c2 => ?_)))))
     ·try simp only[↓cqA,cqB]at c2
      refine qd (qb (zX E (zK (qo (qS (qm (qm (qS (qm (zI hL (qh E qi) ?_ ?_))))))))))
      ·rfl
      refine ⟨qT ?_, rfl⟩
      symm
      rw [mayB]
      have hst : stepB l k = false := by
       rw [stepB_get hu]
       first | (rw [m18]; simp; done) | (rw [m23]; simp; done) | (rw [ha]; simp [ltS_no c2]; omega)
      have : (List.range l.length).all (stepB l) = false := List.all_eq_false.2 ⟨k, by simp; omega, by simp [hst]⟩
      rw [this]; simp
     try simp only[↓cqA,cqB]at c2
     refine qr (qP (qa (qb (zA E (qJ E E E (by omega)) (zX E (zK ?_)))))); refine ⟨?_, ?_, ?_⟩
     ·omega
     ·refine ⟨by omega, fun j hj => ?_⟩
      by_cases hjk : j < k
      ·exact hp.2 j hjk
      ·rw [show j = k by omega, stepB_get hu, m18, m23]
       first | (rw [ha]; simp [ltS_yes c2]; done) | (simp; left; omega) | (simp; omega)
     exact zR hL (zC E (zC E (zC E (zC E SubT.nil)))) (SubO.cons (qR E (by rfl)) SubO.nil)
    have m28 := l28
    try simp only[↓cqA,cqB]at m28
    refine qZ 22 mixed E E E E ?_; refine qf E zD (.run E (qe E qaG E)) ?_; refine qf E zD (.run E (ql E qaf E E E E E)) ?_; refine qf E zD (.run E (qY (avs := [_]) true E en_term_Var E E (by have hh := Var_ok u.name; rw [l18] at hh; exact hh) (fun _ => rfl) E)) ?_; refine qf E zD (.run E (qal E E)) ?_; refine qf E zD (.run E (qk (.inl E) E)) ?_
    refine qf E zD (.want E E E zD (qe E qaZ E)) ?_; refine qf E zD (.want E E E zD (ql E qw E E E E E)) ?_; refine qf E zD (.want E E E zD (qY (avs := [_]) true E qcL E E (by have hh := May_ok u.t huw.2; rw [l23] at hh; exact hh) (fun _ => rfl) E)) ?_; refine qf E zD (.want E E E zD (qal E E)) ?_; refine qf E zD (.run E (qg E E E)) (qf E zD (.run E (qk (.inl E) E)) (qf E zD (.want E E E zD (qk (.inl E) E)) (qf E zD (.want E E E zD (qj (r := .bool false) E E E (congrArg (fun b => some (Value.bool b)) l28))) (qf E zD (.want E E E zD (qk (.inl E) E)) (qf E zD (.skip E E E zD zD) (qf E zD (.skip E E E zD zD) (qf E zD (.skip E E E zD zD) ?_)))))))
    refine qf E zD (.skip E E E zD zD) (qf E zD (.skip E E E zD zD) (qf E zD (.skip E E E zD zD) (qf E zD (.skip E E E zD zD) ?_)))
    refine qf E zD (.skip E E E zD zD) (qak ⟨rfl, rfl, ?_⟩); refine zY E (zZ E (qg E E E) (zA E (qg E E E) (zK (qab E ?_))))
    refine qr (qP (qa (qb (zA E (qJ E E E (by omega)) (zX E (zK ?_)))))); refine ⟨?_, ?_, ?_⟩
    ·omega
    ·refine ⟨by omega, fun j hj => ?_⟩
     by_cases hjk : j < k
     ·exact hp.2 j hjk
     ·rw [show j = k by omega, stepB_get hu, m18, m23]
      first | (rw [ha]; simp [ltS_yes c2]; done) | (simp; left; omega) | (simp; omega)
    exact zR hL (zC E (zC E (zC E (zC E SubT.nil)))) (SubO.cons (qR E (by rfl)) SubO.nil)
   have m23 := l23
   try simp only[↓cqA,cqB]at m23
   refine qZ 22 mixed E E E E ?_; refine qf E zD (.run E (qe E qaG E)) ?_; refine qf E zD (.run E (ql E qaf E E E E E)) ?_; refine qf E zD (.run E (qY (avs := [_]) true E en_term_Var E E (by have hh := Var_ok u.name; rw [l18] at hh; exact hh) (fun _ => rfl) E)) ?_; refine qf E zD (.run E (qal E E)) ?_; refine qf E zD (.run E (qk (.inl E) E)) ?_
   refine qf E zD (.want E E E zD (qe E qaZ E)) ?_; refine qf E zD (.want E E E zD (ql E qw E E E E E)) ?_; refine qf E zD (.want E E E zD (qY (avs := [_]) true E qcL E E (by have hh := May_ok u.t huw.2; rw [l23] at hh; exact hh) (fun _ => rfl) E)) ?_; refine qf E zD (.want E E E zD (qal E E)) ?_; refine qf E zD (.run E (qg E E E)) (qf E zD (.run E (qk (.inl E) E)) (qf E zD (.skip E E E zD zD) (qf E zD (.skip E E E zD zD) (qf E zD (.skip E E E zD zD) (qf E zD (.skipu E E E zD) (qf E zD (.skipu E E E zD) (qf E zD (.skipu E E E zD) (qf E zD (.skipu E E E zD) (qf E zD (.skipu E E E zD) (qf E zD (.skipu E E E zD) ?_))))))))))
   refine qf E zD (.skipu E E E zD) (qf E zD (.skipu E E E zD) (qak ⟨rfl, rfl, ?_⟩)); refine qaE E E E zD E zD (zY E (zA E (qg E E E) (qc ?_)))
   refine qa (qaN E (qd (qb (zX E (zK (qo ?_)))))); refine qS (qm (qm (qS (qm (zI hL (qh E qi) ?_ ?_)))))
   ·rfl
   refine ⟨qT ?_, rfl⟩
   symm
   rw [mayB]
   have hst : stepB l k = false := by
    rw [stepB_get hu]
    first | (rw [m18]; simp; done) | (rw [m23]; simp; done) | (rw [ha]; simp [ltS_no c2]; omega)
   have : (List.range l.length).all (stepB l) = false := List.all_eq_false.2 ⟨k, by simp; omega, by simp [hst]⟩
   rw [this]; simp
  have m18 := l18
  try simp only[↓cqA,cqB]at m18
  refine qZ 22 mixed E E E E (qf E zD (.run E (qe E qaG E)) (qf E zD (.run E (ql E qaf E E E E E)) ?_))
  refine qf E zD (.run E (qY (avs := [_]) true E en_term_Var E E (by have hh := Var_ok u.name; rw [l18] at hh; exact hh) (fun _ => rfl) E)) ?_; refine qf E zD (.run E (qal E E)) ?_; refine qf E zD (.run E (qk (.inl E) E)) ?_; refine qf E zD (.skip E E E zD zD) (qf E zD (.skip E E E zD zD) (qf E zD (.skip E E E zD zD) (qf E zD (.skip E E E zD zD) (qf E zD (.run E (qg E E E)) (qf E zD (.run E (qk (.inl E) E)) (qf E zD (.skip E E E zD zD) (qf E zD (.skip E E E zD zD) (qf E zD (.skip E E E zD zD) (qf E zD (.skipu E E E zD) (qf E zD (.skipu E E E zD) (qf E zD (.skipu E E E zD) (qf E zD (.skipu E E E zD) (qf E zD (.skipu E E E zD) (qf E zD (.skipu E E E zD) (qf E zD (.skipu E E E zD) ?_)))))))))))))))
  refine qf E zD (.skipu E E E zD) (qak ⟨rfl, rfl, ?_⟩); refine qaE E E E zD E zD (zY E (zA E (qg E E E) (zK (qaN E (qd (qb ?_)))))); refine zX E (zK (qo (qS (qm (qm (qS (qm (zI hL (qh E qi) ?_ ?_))))))))
  ·rfl
  refine ⟨qT ?_, rfl⟩
  symm
  rw [mayB]
  have hst : stepB l k = false := by
   rw [stepB_get hu]
   first | (rw [m18]; simp; done) | (rw [m23]; simp; done) | (rw [ha]; simp [ltS_no c2]; omega)
  have : (List.range l.length).all (stepB l) = false := List.all_eq_false.2 ⟨k, by simp; omega, by simp [hst]⟩
  rw [this]; simp
 try simp only[↓cqA,cqB]at c1
 have hst : ∀ j, j < l.length → stepB l j = true := fun j hj => hp.2 j (by omega)
 have hok := steps_bok hst (by omega) hw
 have hwt : Tm.wfs (l.map Bd.t) := wfs_of (fun t ht => by obtain ⟨b, hb, rfl⟩ := List.mem_map.1 ht; exact (hw b hb).2)
 have hmt : ∀ t ∈ l.map Bd.t, mayT t = true := fun t ht => by obtain ⟨b, hb, rfl⟩ := List.mem_map.1 ht; exact (hok.el b hb).2
 have hsum := noteL_sum hmt
 have hnm := Names_ok 5 (l.map Bd.t) (fun t ht => (mayT_dle (hmt t ht)).1) hwt (by simp; omega) (by rw [List.length_map] at hsum; omega)
 have hnl := noteL_len 5 (l.map Bd.t) []
 refine qQ (qn (qn (qX ?_))); refine qa (qd (qb (zA E (qdL (vs := [_]) E E) (zX E (zK (qd ?_)))))); refine qb (zA E (ql E qap E E E E E) ?_)
 refine qaj (avs := [_]) false E E E zD en_bind_terms E E (terms_ok l hok.len) E (qbX .nil) (by rintro r O' ⟨_, rfl⟩; exact frB E) (by rintro h; cases h) ?_
 rintro r O' ⟨rfl, rfl⟩
 refine qaj (avs := [_]) true E E E zD en_term_Names E E (hnm) E (qbX .nil) (by rintro r O' ⟨_, rfl⟩; exact frB E) (by rintro - r O' ⟨⟨L, _, _, rfl⟩, rfl⟩; exact ⟨rfl, rfl⟩) ?_
 rintro r O' ⟨⟨L, g1, g2, rfl⟩, rfl⟩
 have hLl := rising_len g1 g2
 refine qaB (sub_untag hQ) (zX E ?_)
 refine qaj (avs := [_, _]) false E E E zD qdD E E (ContainsFunc_st_ok false L _ E (by simp only [noteL] at hLl; simp only [List.length_nil] at hnl; rw [List.length_map] at hsum; omega) _ [.ptr 1 0] en_bind_May_1 (fun _ => [(1, .box [bdA l])]) (fun k => match L[k]? with | some s => hasB l s | none => false) ⟨fun k l => rfl, fun k => qbX (.cons E trivial E .nil), fun k => rfl, fun k => rfl, fun k => rfl, fun k => rfl, fun h => by cases h⟩ (fun k s hs _ => by rw [hs]; exact bindMay1_ok l hok s)) E (qbX (.cons E trivial E .nil)) (by rintro r O' ⟨m, n, b, _, _, _, _, rfl⟩; exact frB E) (by rintro h; cases h) ?_
 rintro r O' ⟨m, n, b, hm1, hf1, hc, rfl, rfl⟩
 refine zA E (qal E E) (zX E (zK (qo (zI hL (qh E qi) ?_ ?_))))
 ·rfl
 refine ⟨qT ?_, rfl⟩
 rw [any_found g2 hf1 hc, mayB, decide_eq_true (by omega), List.all_eq_true.2 (fun j hj => hst j (by simpa using hj))]
 rfl
def goodB (one l : List Bd) : Bool := l.all (fun b => decide (intoE one b.t = 0))
def subB (one l : List Bd) : List Bd := l.map (fun b => ⟨b.name, putT one b.t⟩)
def standL (l : List Bd) (name : ByteArray) (t : Tm) : List Bd := if 16 ≤ l.length ∨ goodB [⟨name, t⟩] l = false then [] else ins (subB [⟨name, t⟩] l) (posB l name) ⟨name, t⟩
def standE (l : List Bd) (name : ByteArray) (t : Tm) : Int := if 16 ≤ l.length ∨ goodB [⟨name, t⟩] l = false then 2 else 0
theorem subB_pos (one : List Bd) (s : ByteArray) : ∀ l : List Bd, posB (subB one l) s = posB l s
  | [] => rfl
  | b :: l => by
    have ih := subB_pos one s l
    simp only [posB, subB] at ih
    by_cases h : ltS b.name s = true
    · simp [posB, subB, List.takeWhile_cons, h, ih]
    · simp [posB, subB, List.takeWhile_cons, h]
theorem subB_ris (one : List Bd) {l : List Bd} (h : RisB l) : RisB (subB one l) := List.pairwise_map.2 (h.imp fun h => h)
theorem subB_length (one l : List Bd) : (subB one l).length = l.length := by simp [subB]
theorem one_bok {name : ByteArray} {t : Tm} (hn : name.size ≤ 140737488351232) (ht : t.wf) (hm : mayT t = true) : BOk [⟨name, t⟩] := ⟨List.pairwise_singleton _ _, by simp, fun b hb => by simp only [List.mem_singleton] at hb; subst hb; exact ⟨⟨hn, ht⟩, hm⟩⟩
def qcx (x : List Bd) (y : Bd) : List Bd := if hasB x y.name = true then x else ins x (posB x y.name) y
def bothX (a l : List Bd) : List Bd := l.foldl qcx a
def bothBad (x : List Bd) (y : Bd) : Bool := hasB x y.name && !decide (cmpT 5 (lookT x y.name) y.t = 0)
def bothOk : List Bd → List Bd → Bool
 | _, [] => true
 | x, y :: b => !bothBad x y && bothOk (qcx x y) b
def bothL (a b : List Bd) : List Bd := if bothOk a b = true ∧ (bothX a b).length ≤ 16 then bothX a b else []
def bothE (a b : List Bd) : Int := if bothOk a b = true then (if (bothX a b).length ≤ 16 then 0 else 2) else 3
theorem bothX_snoc (a l : List Bd) (u : Bd) : bothX a (l ++ [u]) = qcx (bothX a l) u := by simp [bothX]
theorem bothOk_take : ∀ (l a : List Bd) (k : Nat), (∀ (j : Nat) (u : Bd), j < k → l[j]? = some u → bothBad (bothX a (l.take j)) u = false) → bothOk a l = bothOk (bothX a (l.take k)) (l.drop k)
  | l, a, 0, _ => by simp [bothX]
  | [], a, k + 1, _ => by simp [bothX, bothOk]
  | y :: l, a, k + 1, h => by
    have h0 := h 0 y (by omega) E
    have ih := bothOk_take l (qcx a y) k (fun j u hj hu => by
      have := h (j + 1) u (by omega) (by simpa using hu)
      simpa [bothX] using this)
    simp only [List.take_zero, bothX, List.foldl_nil] at h0
    simp only [bothOk, h0, List.take_succ_cons, List.drop_succ_cons, Bool.not_false, Bool.true_and]
    rw [ih]; rfl
theorem drop_get {α : Type} {l : List α} {k : Nat} {u : α} (h : l[k]? = some u) : l.drop k = u :: l.drop (k + 1) := by
 obtain ⟨h1, rfl⟩ := List.getElem?_eq_some_iff.1 h
 exact List.drop_eq_getElem_cons h1
theorem ins_ris {x : List Bd} {y : Bd} (hr : RisB x) (hh : hasB x y.name = false) : RisB (ins x (posB x y.name) y) := by
 obtain ⟨h1, h2⟩ := posB_spec y.name x
 have hno : ∀ b ∈ x, b.name ≠ y.name := fun b hb e => by
  have : hasB x y.name = true := List.any_eq_true.2 ⟨b, hb, by simpa using e⟩
  rw [hh] at this; cases this
 have hle := posB_le x y.name
 unfold RisB ins
 rw [List.pairwise_append]
 refine ⟨List.Pairwise.sublist (List.take_sublist _ _) hr, List.pairwise_cons.2 ⟨fun b hb => ?_, List.Pairwise.sublist (List.drop_sublist _ _) hr⟩, fun a ha b hb => ?_⟩
 ·obtain ⟨j, hj⟩ := List.getElem?_of_mem hb
  rw [List.getElem?_drop] at hj
  have hpos : posB x y.name < x.length := by have := (List.getElem?_eq_some_iff.1 hj).1; omega
  obtain ⟨c, hc⟩ := qH (l := x) (k := posB x y.name) hpos
  have h3 := h2 c hc
  have h4 : ltS y.name c.name = true := by
   rcases ltS_tri c.name y.name with h | h | h
   ·rw [h] at h3; cases h3
   ·exact absurd h (hno c (List.mem_of_getElem? hc))
   ·exact h
  rcases Nat.eq_zero_or_pos j with rfl | hjp
  ·rw [Nat.add_zero, hc] at hj; cases hj; exact h4
  ·exact ltS_trans h4 (hr.lt (by omega) hc hj)
 ·obtain ⟨i, hi⟩ := List.getElem?_of_mem ha
  rw [List.getElem?_take] at hi
  split at hi
  ·rename_i hip
   have h3 := h1 i a hip hi
   rcases List.mem_cons.1 hb with rfl | hb
   ·exact h3
   ·obtain ⟨j, hj⟩ := List.getElem?_of_mem hb
    rw [List.getElem?_drop] at hj
    exact hr.lt (by omega) hi hj
  ·cases hi
theorem bothStep_ok {x : List Bd} {y : Bd} (hx : RisB x ∧ ∀ b ∈ x, b.wf ∧ mayT b.t = true) (hy : y.wf ∧ mayT y.t = true) : RisB (qcx x y) ∧ (∀ b ∈ qcx x y, b.wf ∧ mayT b.t = true) ∧ (qcx x y).length ≤ x.length + 1 := by
 unfold qcx
 split
 ·exact ⟨hx.1, hx.2, by omega⟩
 ·rename_i h
  refine ⟨ins_ris hx.1 (by simpa using h), fun b hb => ?_, by rw [ins_length _ _ _ (posB_le _ _)]; omega⟩
  simp only [ins, List.mem_append, List.mem_cons] at hb
  rcases hb with hb | rfl | hb
  ·exact hx.2 b (List.mem_of_mem_take hb)
  ·exact hy
  ·exact hx.2 b (List.mem_of_mem_drop hb)
theorem bothX_ok {a : List Bd} (ha : RisB a ∧ ∀ b ∈ a, b.wf ∧ mayT b.t = true) : ∀ l : List Bd, (∀ b ∈ l, b.wf ∧ mayT b.t = true) → (RisB (bothX a l) ∧ ∀ b ∈ bothX a l, b.wf ∧ mayT b.t = true) ∧ (bothX a l).length ≤ a.length + l.length := fun l => by
  induction l generalizing a with
  | nil => intro _; exact ⟨ha, by simp [bothX]⟩
  | cons y l ih =>
    intro h
    have h1 := bothStep_ok ha (h y (by simp))
    have h2 := ih ⟨h1.1, h1.2.1⟩ (fun b hb => h b (by simp [hb]))
    have e : bothX a (y :: l) = bothX (qcx a y) l := rfl
    rw [e]
    refine ⟨h2.1, ?_⟩
    have := h2.2; have := h1.2.2
    simp only [List.length_cons]; omega
theorem bothL_ok {a b : List Bd} (ha : BOk a) (hb : BOk b) : BOk (bothL a b) := by
 unfold bothL
 split
 ·rename_i h
  have := bothX_ok ⟨ha.ris, ha.el⟩ b hb.el
  exact ⟨this.1.1, by omega, this.1.2⟩
 ·exact ⟨List.Pairwise.nil, by simp, fun b hb => by simp at hb⟩
def occB (t : Tm) (s : ByteArray) : Bool := (noteL 5 [t]).any (fun n => decide (n = s))
def standsL (l : List Bd) (s : ByteArray) (t : Tm) : List Bd := if occB t s = true then [] else standL l s t
def standsE (l : List Bd) (s : ByteArray) (t : Tm) : Int := if occB t s = true then 3 else standE l s t
def argsB (a b : Tm) : Bool := decide (a.kind = b.kind) && decide (a.name = b.name) && decide (a.n = b.n) && decide (a.args.length = b.args.length)
def argsL (a b : Tm) : List (Tm × Tm) := if argsB a b = true then a.args.zip b.args else []
theorem flat_snoc {α : Type} {rs : List (List α)} {k : Nat} {es : List α} (h : rs[k]? = some es) : (rs.take (k + 1)).flatten = (rs.take k).flatten ++ es := by rw [qac h]; simp
theorem flat_le {α : Type} (rs : List (List α)) (k : Nat) : (rs.take k).flatten.length ≤ rs.flatten.length := by
 have := congrArg (fun l : List (List α) => l.flatten.length) (List.take_append_drop k rs)
 simp only [List.flatten_append, List.length_append] at this
 omega
def oneR (l : List Bd) (p : Tm × Tm) : List Bd × List (Tm × Tm) × Int :=
 if intoE l p.1 ≠ 0 then ([], [], intoE l p.1) else
 if intoE l p.2 ≠ 0 then ([], [], intoE l p.2) else
 if (putT l p.1).kind = 1 ∧ (putT l p.2).kind = 1 ∧ (putT l p.1).name = (putT l p.2).name then (l, [], 0) else
 if (putT l p.1).kind = 1 ∧ ((putT l p.2).kind ≠ 1 ∨ ltS (putT l p.2).name (putT l p.1).name = true) then (standsL l (putT l p.1).name (putT l p.2), [], standsE l (putT l p.1).name (putT l p.2)) else
 if (putT l p.2).kind = 1 then (standsL l (putT l p.2).name (putT l p.1), [], standsE l (putT l p.2).name (putT l p.1)) else
 if argsB (putT l p.1) (putT l p.2) = true then (l, argsL (putT l p.1) (putT l p.2), 0) else ([], [], 3)
mutual
def Tm.sub (g : ByteArray → Tm) : Tm → Tm
 | ⟨k, nm, n, l0⟩ => if k = 1 then g nm else ⟨k, nm, n, Tm.subs g l0⟩
def Tm.subs (g : ByteArray → Tm) : List Tm → List Tm
 | [] => []
 | t :: ts => Tm.sub g t :: Tm.subs g ts
end
mutual
def Tm.occ (y : ByteArray) : Tm → Prop
 | ⟨k, nm, _, l0⟩ => (k = 1 ∧ nm = y) ∨ Tm.occs y l0
def Tm.occs (y : ByteArray) : List Tm → Prop
 | [] => False
 | t :: ts => Tm.occ y t ∨ Tm.occs y ts
end
mutual
def Tm.sz : Tm → Nat
 | ⟨_, _, _, l0⟩ => 1 + Tm.szs l0
def Tm.szs : List Tm → Nat
 | [] => 0
 | t :: ts => Tm.sz t + Tm.szs ts
end
mutual
def Tm.shp : Tm → Prop
 | ⟨k, nm, n, l0⟩ => ((k = 1 ∧ varB nm = true ∧ n = 0 ∧ l0 = []) ∨ (k = 2 ∧ numB n = true ∧ nm.size = 0 ∧ l0 = []) ∨ (k = 3 ∧ nameB nm = true ∧ n = 0 ∧ l0.length ≤ 4)) ∧ Tm.shps l0
def Tm.shps : List Tm → Prop
 | [] => True
 | t :: ts => Tm.shp t ∧ Tm.shps ts
end
theorem Tm.subs_map (g : ByteArray → Tm) : ∀ l, Tm.subs g l = l.map (Tm.sub g)
 | [] => by rw [Tm.subs]; rfl
 | t :: ts => by rw [Tm.subs, Tm.subs_map g ts]; rfl
theorem Tm.sub_eq (g : ByteArray → Tm) (t : Tm) : t.sub g = if t.kind = 1 then g t.name else ⟨t.kind, t.name, t.n, t.args.map (Tm.sub g)⟩ := by
 cases t; simp only [Tm.sub, Tm.subs_map]
theorem Tm.occs_iff (y : ByteArray) : ∀ l, Tm.occs y l ↔ ∃ u ∈ l, Tm.occ y u
 | [] => by simp [Tm.occs]
 | t :: ts => by simp [Tm.occs, Tm.occs_iff y ts]
theorem Tm.occ_iff (y : ByteArray) (t : Tm) : t.occ y ↔ (t.kind = 1 ∧ t.name = y) ∨ ∃ u ∈ t.args, Tm.occ y u := by
 cases t; simp only [Tm.occ, Tm.occs_iff]
theorem Tm.szs_sum : ∀ l, Tm.szs l = (l.map Tm.sz).sum
 | [] => by simp [Tm.szs]
 | t :: ts => by simp [Tm.szs, Tm.szs_sum ts]
theorem Tm.sz_eq (t : Tm) : t.sz = 1 + (t.args.map Tm.sz).sum := by cases t; simp only [Tm.sz, Tm.szs_sum]
theorem Tm.sz_pos (t : Tm) : 1 ≤ t.sz := by rw [Tm.sz_eq]; omega
theorem Tm.shps_iff : ∀ l, Tm.shps l ↔ ∀ u ∈ l, Tm.shp u
 | [] => by simp [Tm.shps]
 | t :: ts => by simp [Tm.shps, Tm.shps_iff ts]
def Tm.top (t : Tm) : Prop := (t.kind = 1 ∧ varB t.name = true ∧ t.n = 0 ∧ t.args = []) ∨ (t.kind = 2 ∧ numB t.n = true ∧ t.name.size = 0 ∧ t.args = []) ∨ (t.kind = 3 ∧ nameB t.name = true ∧ t.n = 0 ∧ t.args.length ≤ 4)
theorem Tm.shp_iff (t : Tm) : t.shp ↔ t.top ∧ ∀ u ∈ t.args, Tm.shp u := by cases t; simp only [Tm.shp, Tm.shps_iff, Tm.top]
theorem Tm.ind {P : Tm → Prop} (h : ∀ t : Tm, (∀ u ∈ t.args, P u) → P t) (t : Tm) : P t :=
 Tm.rec (motive_1 := P) (motive_2 := fun ts => ∀ u ∈ ts, P u) (fun k nm n l0 ih => h ⟨k, nm, n, l0⟩ ih) (fun u hu => by cases hu) (fun t ts h1 h2 u hu => by
  rcases List.mem_cons.1 hu with e | hu
  ·exact e ▸ h1
  ·exact h2 u hu) t
theorem Tm.shp.arg {t u : Tm} (h : t.shp) (hu : u ∈ t.args) : u.shp := ((Tm.shp_iff t).1 h).2 u hu
theorem Tm.shp.var {t : Tm} (h : t.shp) (hk : t.kind = 1) : t = ⟨1, t.name, 0, []⟩ ∧ varB t.name = true := by
 have := ((Tm.shp_iff t).1 h).1
 cases t
 simp only [Tm.top] at this hk ⊢
 subst hk
 rcases this with ⟨_, h2, h3, h4⟩ | ⟨h1, _⟩ | ⟨h1, _⟩
 ·subst h3 h4; exact ⟨rfl, h2⟩
 ·cases h1
 ·cases h1
theorem turn_sub (g : ByteArray → Tm) : ∀ (d : Nat) (t : Tm), dle d t → turnT g d t = t.sub g
  | 0, t, h => h.elim
  | d + 1, t, h => by
    rw [turnT, Tm.sub_eq]
    split
    · rfl
    · congr 1
      exact List.map_congr_left fun u hu => turn_sub g d u (h u hu)
theorem note_occ (y : ByteArray) : ∀ (d : Nat) (t : Tm), dle d t → (y ∈ qdA d t [] ↔ t.occ y)
  | 0, t, h => h.elim
  | d + 1, t, h => by
    rw [qdA, noteL_mem d y (noteS_mem d y), Tm.occ_iff]
    have e : (∃ u, u ∈ t.args ∧ y ∈ qdA d u []) ↔ ∃ u ∈ t.args, Tm.occ y u := by
      constructor
      · rintro ⟨u, hu, hy⟩; exact ⟨u, hu, (note_occ y d u (h u hu)).1 hy⟩
      · rintro ⟨u, hu, hy⟩; exact ⟨u, hu, (note_occ y d u (h u hu)).2 hy⟩
    rw [e]
    split
    · rename_i hk; simp [hk, eq_comm]
    · rename_i hk; simp [hk]
theorem dle_mono : ∀ (d e : Nat) (t : Tm), d ≤ e → dle d t → dle e t
 | 0, _, t, _, h => h.elim
 | d + 1, 0, t, h, _ => by omega
 | d + 1, e + 1, t, h, hd => fun u hu => dle_mono d e u (by omega) (hd u hu)
theorem mayL_fwd (d : Nat) (ih : ∀ (t : Tm) (n : Int), 0 ≤ n → (mayS d t n).1 = true → t.shp ∧ dle d t ∧ (mayS d t n).2 = n - t.sz ∧ (t.sz : Int) ≤ n) : ∀ (l : List Tm) (n : Int), 0 ≤ n → (mayL (mayS d) l n).1 = true → (∀ u ∈ l, u.shp ∧ dle d u) ∧ (mayL (mayS d) l n).2 = n - ((l.map Tm.sz).sum : Nat) ∧ (((l.map Tm.sz).sum : Nat) : Int) ≤ n
  | [], n, hn, _ => by simp [mayL]; omega
  | a :: l, n, hn, h => by
    simp only [mayL] at h ⊢
    split at h
    · rename_i hb
      obtain ⟨h1, h2, h3, h4⟩ := ih a n hn hb
      obtain ⟨h5, h6, h7⟩ := mayL_fwd d ih l (mayS d a n).2 (by omega) h
      rw [if_pos hb]
      refine ⟨fun u hu => ?_, ?_, ?_⟩
      · rcases List.mem_cons.1 hu with rfl | hu
        · exact ⟨h1, h2⟩
        · exact h5 u hu
      · rw [h6, h3]; simp only [List.map_cons, List.sum_cons]; omega
      · simp only [List.map_cons, List.sum_cons]; omega
    · cases h
theorem mayS_fwd : ∀ (d : Nat) (t : Tm) (n : Int), 0 ≤ n → (mayS d t n).1 = true → t.shp ∧ dle d t ∧ (mayS d t n).2 = n - t.sz ∧ (t.sz : Int) ≤ n
  | 0, t, n, _, h => by simp [mayS] at h
  | d + 1, t, n, hn0, h => by
    rw [Tm.shp_iff, Tm.sz_eq]
    have e0 : ∀ l : List Tm, l.length = 0 → l = [] := fun l h => List.eq_nil_of_length_eq_zero h
    simp only [mayS] at h ⊢
    split at h
    · cases h
    rename_i hn
    rw [if_neg hn]
    split at h
    · rename_i hk
      rw [if_pos hk]
      simp only [Bool.and_eq_true, decide_eq_true_eq] at h
      have := e0 _ h.2
      refine ⟨⟨.inl ⟨hk, h.1.1, h.1.2, this⟩, by simp [this]⟩, fun u hu => by simp [this] at hu, ?_, ?_⟩ <;> simp [this] <;> omega
    rename_i hk1
    rw [if_neg hk1]
    split at h
    · rename_i hk
      rw [if_pos hk]
      simp only [Bool.and_eq_true, decide_eq_true_eq] at h
      have := e0 _ h.2
      refine ⟨⟨.inr (.inl ⟨hk, h.1.1, h.1.2, this⟩), by simp [this]⟩, fun u hu => by simp [this] at hu, ?_, ?_⟩ <;> simp [this] <;> omega
    rename_i hk2
    rw [if_neg hk2]
    split at h
    · rename_i hk
      rw [if_pos hk]
      split at h
      · rename_i hc
        rw [if_pos hc]
        obtain ⟨h5, h6, h7⟩ := mayL_fwd d (mayS_fwd d) t.args (n - 1) (by omega) h
        simp only [Bool.and_eq_true, decide_eq_true_eq] at hc
        refine ⟨⟨.inr (.inr ⟨hk, hc.1.1, hc.1.2, hc.2⟩), fun u hu => (h5 u hu).1⟩, fun u hu => (h5 u hu).2, ?_, ?_⟩
        · rw [h6]; omega
        · omega
      · cases h
    · cases h
theorem mayL_bwd (d : Nat) (ih : ∀ (t : Tm) (n : Int), t.shp → dle d t → (t.sz : Int) ≤ n → mayS d t n = (true, n - t.sz)) : ∀ (l : List Tm) (n : Int), (∀ u ∈ l, u.shp ∧ dle d u) → (((l.map Tm.sz).sum : Nat) : Int) ≤ n → mayL (mayS d) l n = (true, n - ((l.map Tm.sz).sum : Nat))
  | [], n, _, _ => by simp [mayL]
  | a :: l, n, h, hn => by
    simp only [List.map_cons, List.sum_cons] at hn ⊢
    have h1 := ih a n (h a (by simp)).1 (h a (by simp)).2 (by omega)
    have h2 := mayL_bwd d ih l (n - a.sz) (fun u hu => h u (by simp [hu])) (by omega)
    simp only [mayL, h1, if_true, h2]
    congr 1; omega
theorem mayS_bwd : ∀ (d : Nat) (t : Tm) (n : Int), t.shp → dle d t → (t.sz : Int) ≤ n → mayS d t n = (true, n - t.sz)
  | 0, t, n, _, h, _ => h.elim
  | d + 1, t, n, hs, hd, hn => by
    rw [Tm.shp_iff] at hs
    rw [Tm.sz_eq] at hn ⊢
    obtain ⟨ht, hs⟩ := hs
    simp only [mayS]
    rw [if_neg (by omega)]
    rcases ht with ⟨h1, h2, h3, h4⟩ | ⟨h1, h2, h3, h4⟩ | ⟨h1, h2, h3, h4⟩
    · rw [if_pos h1, h2, h3, h4]; simp
    · rw [if_neg (by omega), if_pos h1, h2, h3, h4]; simp
    · rw [if_neg (by omega), if_neg (by omega), if_pos h1, if_pos (by simp [h2, h3, h4])]
      rw [mayL_bwd d (mayS_bwd d) t.args (n - 1) (fun u hu => ⟨hs u hu, hd u hu⟩) (by omega)]
      congr 1; omega
theorem mayT_iff (t : Tm) : mayT t = true ↔ t.shp ∧ dle 5 t ∧ t.sz ≤ 24 := by
 constructor
 ·intro h
  obtain ⟨h1, h2, h3, h4⟩ := mayS_fwd 5 t 24 (by omega) h
  exact ⟨h1, h2, by omega⟩
 ·rintro ⟨h1, h2, h3⟩
  show (mayS 5 t 24).1 = true
  rw [mayS_bwd 5 t 24 h1 h2 (by omega)]
def varT (s : ByteArray) : Tm := ⟨1, s, 0, []⟩
theorem sub_congr {g h : ByteArray → Tm} (t : Tm) : (∀ y, t.occ y → g y = h y) → t.sub g = t.sub h := by
 refine Tm.ind (P := fun t => (∀ y, t.occ y → g y = h y) → t.sub g = t.sub h) (fun t ih hy => ?_) t
 rw [Tm.sub_eq, Tm.sub_eq]
 split
 ·rename_i hk; exact hy _ ((Tm.occ_iff _ _).2 (.inl ⟨hk, rfl⟩))
 ·congr 1
  exact List.map_congr_left fun u hu => ih u hu fun y hu2 => hy y ((Tm.occ_iff _ _).2 (.inr ⟨u, hu, hu2⟩))
theorem sub_varT {t : Tm} (hs : t.shp) : t.sub varT = t := by
 refine Tm.ind (P := fun t => t.shp → t.sub varT = t) (fun t ih hs => ?_) t hs
 rw [Tm.sub_eq]
 split
 ·rename_i hk; rw [(hs.var hk).1]; rfl
 ·have : t.args.map (Tm.sub varT) = t.args := by
   have h2 : t.args.map (Tm.sub varT) = t.args.map id := List.map_congr_left fun u hu => ih u hu (hs.arg hu)
   rw [h2, List.map_id]
  rw [this]
  cases t; rfl
theorem sub_id {g : ByteArray → Tm} {t : Tm} (hs : t.shp) (h : ∀ y, t.occ y → g y = varT y) : t.sub g = t := by
 rw [sub_congr t h, sub_varT hs]
theorem occ_sub (g : ByteArray → Tm) (y : ByteArray) (t : Tm) (hs : t.shp) : (t.sub g).occ y ↔ ∃ x, t.occ x ∧ (g x).occ y := by
 refine Tm.ind (P := fun t => t.shp → ((t.sub g).occ y ↔ ∃ x, t.occ x ∧ (g x).occ y)) (fun t ih hs => ?_) t hs
 rw [Tm.sub_eq]
 split
 ·rename_i hk
  constructor
  ·intro h; exact ⟨t.name, (Tm.occ_iff _ _).2 (.inl ⟨hk, rfl⟩), h⟩
  ·rintro ⟨x, hx, h⟩
   rw [Tm.occ_iff] at hx
   rcases hx with ⟨_, rfl⟩ | ⟨u, hu, _⟩
   ·exact h
   ·rw [(hs.var hk).1] at hu; cases hu
 ·rename_i hk
  rw [Tm.occ_iff]
  constructor
  ·rintro (⟨h, _⟩ | ⟨u, hu, h⟩)
   ·exact absurd h hk
   ·obtain ⟨v, hv, rfl⟩ := List.mem_map.1 hu
    obtain ⟨x, hx, h2⟩ := (ih v hv (hs.arg hv)).1 h
    exact ⟨x, (Tm.occ_iff _ _).2 (.inr ⟨v, hv, hx⟩), h2⟩
  ·rintro ⟨x, hx, h⟩
   rw [Tm.occ_iff] at hx
   rcases hx with ⟨h, _⟩ | ⟨u, hu, h2⟩
   ·exact absurd h hk
   ·exact .inr ⟨u.sub g, List.mem_map.2 ⟨u, hu, rfl⟩, (ih u hu (hs.arg hu)).2 ⟨x, h2, h⟩⟩
theorem shp_sub {g : ByteArray → Tm} {t : Tm} (hs : t.shp) (h : ∀ y, t.occ y → (g y).shp) : (t.sub g).shp := by
 refine Tm.ind (P := fun t => t.shp → (∀ y, t.occ y → (g y).shp) → (t.sub g).shp) (fun t ih hs h => ?_) t hs h
 rw [Tm.sub_eq]
 split
 ·rename_i hk; exact h _ ((Tm.occ_iff _ _).2 (.inl ⟨hk, rfl⟩))
 ·rename_i hk
  rw [Tm.shp_iff] at hs ⊢
  refine ⟨?_, fun u hu => ?_⟩
  ·have := hs.1
   simp only [Tm.top, List.length_map, List.map_eq_nil_iff] at this ⊢
   exact this
  ·obtain ⟨v, hv, rfl⟩ := List.mem_map.1 hu
   exact ih v hv (hs.2 v hv) fun y hy => h y ((Tm.occ_iff _ _).2 (.inr ⟨v, hv, hy⟩))
theorem sz_occ {x : ByteArray} (g : ByteArray → Tm) {t : Tm} (hs : t.shp) (h : t.occ x) : (g x).sz ≤ (t.sub g).sz ∧ (t.kind ≠ 1 → (g x).sz < (t.sub g).sz) := by
 refine Tm.ind (P := fun t => t.shp → t.occ x → (g x).sz ≤ (t.sub g).sz ∧ (t.kind ≠ 1 → (g x).sz < (t.sub g).sz)) (fun t ih hs h => ?_) t hs h
 rw [Tm.occ_iff] at h
 rw [Tm.sub_eq]
 split
 ·rename_i hk
  refine ⟨?_, fun h2 => absurd hk h2⟩
  rcases h with ⟨_, rfl⟩ | ⟨u, hu, _⟩
  ·exact Nat.le_refl _
  ·rw [(hs.var hk).1] at hu; cases hu
 ·rename_i hk
  rcases h with ⟨h, _⟩ | ⟨u, hu, h⟩
  ·exact absurd h hk
  ·have h1 := (ih u hu (hs.arg hu) h).1
   have h2 : (u.sub g).sz < (Tm.mk t.kind t.name t.n (t.args.map (Tm.sub g))).sz := by
    rw [Tm.sz_eq (Tm.mk _ _ _ _)]
    simp only [List.map_map]
    obtain ⟨i, hi⟩ := List.getElem?_of_mem hu
    have := sum_split (l := t.args) (k := i) (u := u) (Tm.sz ∘ Tm.sub g) hi
    simp only [Function.comp] at this ⊢
    omega
   exact ⟨by omega, fun _ => by omega⟩
structure GB (l : List Bd) : Prop where
 len : l.length ≤ 16
 ris : RisB l
 el : ∀ b ∈ l, b.wf ∧ varB b.name = true ∧ mayT b.t = true
 idem : ∀ b ∈ l, ∀ y, b.t.occ y → hasB l y = false
theorem GB.bok {l : List Bd} (h : GB l) : BOk l := ⟨h.ris, by have := h.len; omega, fun b hb => ⟨(h.el b hb).1, (h.el b hb).2.2⟩⟩
theorem hasB_iff (l : List Bd) (y : ByteArray) : hasB l y = true ↔ ∃ b ∈ l, b.name = y := by simp [hasB]
theorem hasB_no (l : List Bd) (y : ByteArray) : hasB l y = false ↔ ∀ b ∈ l, b.name ≠ y := by simp [hasB]
theorem qbA {t : Tm} (h : mayT t = true) : dle 5 t := ((mayT_iff t).1 h).2.1
theorem qdT {t : Tm} (h : mayT t = true) : t.shp := ((mayT_iff t).1 h).1
theorem note5 {t : Tm} (h : dle 5 t) (y : ByteArray) : y ∈ noteL 5 [t] ↔ t.occ y := note_occ y 5 t h
theorem noteL5 {l : List Tm} (h : ∀ t ∈ l, dle 5 t) (y : ByteArray) : y ∈ noteL 5 l ↔ ∃ t ∈ l, Tm.occ y t := by
 rw [noteL, noteL_mem 5 y (noteS_mem 5 y)]
 constructor
 ·rintro (h1 | ⟨u, hu, hy⟩)
  ·cases h1
  ·exact ⟨u, hu, (note_occ y 5 u (h u hu)).1 hy⟩
 ·rintro ⟨u, hu, hy⟩; exact .inr ⟨u, hu, (note_occ y 5 u (h u hu)).2 hy⟩
theorem mayB_iff {l : List Bd} (hw : ∀ b ∈ l, b.wf) : mayB l = true ↔ GB l := by
  constructor
  · intro h
    have hb := mayB_bok h hw
    simp only [mayB, Bool.and_eq_true, decide_eq_true_eq, List.all_eq_true, List.mem_range, Bool.not_eq_true'] at h
    refine ⟨h.1.1, hb.ris, fun b hm => ⟨hw b hm, ?_, (hb.el b hm).2⟩, fun b hm y hy => ?_⟩
    · obtain ⟨j, hj⟩ := List.getElem?_of_mem hm
      have := h.1.2 j (List.getElem?_eq_some_iff.1 hj).1
      simp only [stepB, hj, Bool.and_eq_true] at this
      exact this.1.1
    · have hd : ∀ t ∈ l.map Bd.t, dle 5 t := fun t ht => by obtain ⟨b, hb2, rfl⟩ := List.mem_map.1 ht; exact qbA (hb.el b hb2).2
      cases hc : hasB l y with
      | false => rfl
      | true =>
        have := List.any_eq_false.1 h.2 y ((noteL5 hd y).2 ⟨b.t, List.mem_map.2 ⟨b, hm, rfl⟩, hy⟩)
        exact absurd hc this
  · intro h
    have hd : ∀ t ∈ l.map Bd.t, dle 5 t := fun t ht => by obtain ⟨b, hb2, rfl⟩ := List.mem_map.1 ht; exact qbA (h.el b hb2).2.2
    simp only [mayB, Bool.and_eq_true, decide_eq_true_eq, List.all_eq_true, List.mem_range, Bool.not_eq_true']
    refine ⟨⟨h.len, fun j hj => ?_⟩, List.any_eq_false.2 fun y hy => ?_⟩
    · obtain ⟨b, hb⟩ := qH (l := l) (k := j) hj
      have hbm := List.mem_of_getElem? hb
      rw [stepB_get hb, (h.el b hbm).2.1, (h.el b hbm).2.2]
      rcases Nat.eq_zero_or_pos j with rfl | hj0
      · simp
      · obtain ⟨a, ha⟩ := qH (l := l) (k := j - 1) (by omega)
        rw [ha]
        have := List.pairwise_iff_getElem.1 h.ris (j - 1) j (by omega) hj (by omega)
        rw [(List.getElem?_eq_some_iff.1 ha).2, (List.getElem?_eq_some_iff.1 hb).2] at this
        simp [this]
    · obtain ⟨t, ht, ho⟩ := (noteL5 hd y).1 hy
      obtain ⟨b, hb2, rfl⟩ := List.mem_map.1 ht
      rw [h.idem b hb2 y ho]; simp
theorem gB_mem {l : List Bd} (h : RisB l) {b : Bd} (hb : b ∈ l) : gB l b.name = b.t := by
  have key : ∀ l : List Bd, RisB l → b ∈ l → l.find? (fun c => decide (c.name = b.name)) = some b := fun l => by
    induction l with
    | nil => intro _ h; cases h
    | cons a l ih =>
      intro hr hm
      rcases List.mem_cons.1 hm with rfl | hm
      · simp
      · have h1 := List.pairwise_cons.1 hr
        have h2 := h1.1 b hm
        have hne : a.name ≠ b.name := fun e => by rw [e, ltS_irrefl] at h2; cases h2
        rw [List.find?_cons_of_neg (by simpa using hne)]
        exact ih h1.2 hm
  rw [gB, lookB, key l h hb]; rfl
theorem gB_none {l : List Bd} (h : RisB l) {y : ByteArray} (hy : hasB l y = false) : gB l y = varT y := by
 rw [gB, lookB_none h hy]; rfl
theorem gB_cases {l : List Bd} (h : RisB l) (y : ByteArray) : (∃ b ∈ l, b.name = y ∧ gB l y = b.t) ∨ hasB l y = false ∧ gB l y = varT y := by
  cases hc : hasB l y with
  | false => exact .inr ⟨rfl, gB_none h hc⟩
  | true =>
    obtain ⟨b, hb, rfl⟩ := (hasB_iff l y).1 hc
    exact .inl ⟨b, hb, rfl, gB_mem h hb⟩
theorem putT_sub {t : Tm} (h : dle 5 t) (l : List Bd) : putT l t = t.sub (gB l) := turn_sub _ 5 t h
theorem varT_sub (g : ByteArray → Tm) (y : ByteArray) : (varT y).sub g = g y := by rw [Tm.sub_eq]; rfl
theorem varT_occ (x y : ByteArray) : (varT x).occ y ↔ x = y := by rw [Tm.occ_iff]; simp [varT]
theorem gB_occ {l : List Bd} (h : GB l) {x y : ByteArray} (ho : (gB l x).occ y) : hasB l y = false := by
 rcases gB_cases h.ris x with ⟨b, hb, _, e⟩ | ⟨hn, e⟩
 ·rw [e] at ho; exact h.idem b hb y ho
 ·rw [e, varT_occ] at ho; rw [← ho]; exact hn
theorem gB_shp {l : List Bd} (h : GB l) {x : ByteArray} (hx : varB x = true) : (gB l x).shp := by
 rcases gB_cases h.ris x with ⟨b, hb, _, e⟩ | ⟨hn, e⟩
 ·rw [e]; exact qdT (h.el b hb).2.2
 ·rw [e, Tm.shp_iff]; exact ⟨.inl ⟨rfl, hx, rfl, rfl⟩, fun u hu => by cases hu⟩
theorem occ_var {t : Tm} (hs : t.shp) {y : ByteArray} (h : t.occ y) : varB y = true := by
 refine Tm.ind (P := fun t => t.shp → t.occ y → varB y = true) (fun t ih hs h => ?_) t hs h
 rw [Tm.occ_iff] at h
 rcases h with ⟨h1, rfl⟩ | ⟨u, hu, h2⟩
 ·exact (hs.var h1).2
 ·exact ih u hu (hs.arg hu) h2
theorem gB_id {l : List Bd} (h : GB l) {t : Tm} (hs : t.shp) (hn : ∀ y, t.occ y → hasB l y = false) : t.sub (gB l) = t :=
 sub_id hs fun y hy => gB_none h.ris (hn y hy)
theorem ap_occ {l : List Bd} (h : GB l) {t : Tm} (hs : t.shp) {y : ByteArray} (ho : (t.sub (gB l)).occ y) : hasB l y = false := by
 obtain ⟨x, _, hx⟩ := (occ_sub _ y t hs).1 ho
 exact gB_occ h hx
theorem ap_shp {l : List Bd} (h : GB l) {t : Tm} (hs : t.shp) : (t.sub (gB l)).shp := shp_sub hs fun y hy => gB_shp h (occ_var hs hy)
theorem gB_one (name : ByteArray) (t : Tm) (y : ByteArray) : gB [⟨name, t⟩] y = if name = y then t else varT y := by
 simp only [gB, lookB, List.find?]
 split
 ·rename_i h; simp only [decide_eq_true_eq] at h; rw [if_pos h]; rfl
 ·rename_i h; simp only [decide_eq_false_iff_not] at h; rw [if_neg h]; rfl
theorem GB_nil : GB [] := ⟨by simp, List.Pairwise.nil, (fun b hb => by cases hb), (fun b hb => by cases hb)⟩
theorem mem_ins {α : Type} (l : List α) (i : Nat) (x b : α) : b ∈ ins l i x ↔ b ∈ l ∨ b = x := by
 unfold ins
 rw [List.mem_append, List.mem_cons]
 have : b ∈ l ↔ b ∈ l.take i ∨ b ∈ l.drop i := by rw [← List.mem_append, List.take_append_drop]
 rw [this]
 constructor
 ·rintro (h | h | h) <;> simp [h]
 ·rintro ((h | h) | h) <;> simp [h]
theorem stand_spec {l : List Bd} (h : GB l) {name : ByteArray} {t : Tm} (hn : varB name = true) (hns : name.size ≤ 140737488351232) (hw : t.wf) (hm : mayT t = true) (hl : hasB l name = false) (ho : ¬ t.occ name) (hf : ∀ y, t.occ y → hasB l y = false) (he : standE l name t = 0) :
  GB (standL l name t) ∧ (standL l name t).length = l.length + 1 ∧ (∀ y, gB (standL l name t) y = (gB l y).sub (gB [⟨name, t⟩])) ∧ ∀ y, hasB (standL l name t) y = (hasB l y || decide (name = y)) := by
 have hc : ¬ (16 ≤ l.length ∨ goodB [⟨name, t⟩] l = false) := by
  intro hc; rw [standE, if_pos hc] at he; cases he
 have hg : goodB [⟨name, t⟩] l = true := by
  cases hx : goodB [⟨name, t⟩] l with
  | true => rfl
  | false => exact absurd (.inr hx) hc
 have hg2 : ∀ b ∈ l, mayT (putT [⟨name, t⟩] b.t) = true := fun b hb => (into_may (by simpa using List.all_eq_true.1 hg b hb)).1
 rw [standL, if_neg hc]
 have hlen : (ins (subB [⟨name, t⟩] l) (posB l name) ⟨name, t⟩).length = l.length + 1 := by
  rw [ins_length _ _ _ (by rw [subB_length]; exact posB_le l name), subB_length]
 have hh : ∀ y, hasB (ins (subB [⟨name, t⟩] l) (posB l name) ⟨name, t⟩) y = (hasB l y || decide (name = y)) := fun y => by
  rw [Bool.eq_iff_iff, Bool.or_eq_true, hasB_iff, hasB_iff, decide_eq_true_eq]
  constructor
  ·rintro ⟨b, hb, rfl⟩
   rcases (mem_ins _ _ _ _).1 hb with hb | rfl
   ·obtain ⟨c, hc2, rfl⟩ := List.mem_map.1 hb
    exact .inl ⟨c, hc2, rfl⟩
   ·exact .inr E
  ·rintro (⟨b, hb, rfl⟩ | rfl)
   ·exact ⟨_, (mem_ins _ _ _ _).2 (.inl (List.mem_map.2 ⟨b, hb, rfl⟩)), rfl⟩
   ·exact ⟨_, (mem_ins _ _ _ _).2 (.inr E), rfl⟩
 have hsb : hasB (subB [⟨name, t⟩] l) name = false := by
  rw [hasB_no] at hl ⊢
  intro b hb
  obtain ⟨c, hc2, rfl⟩ := List.mem_map.1 hb
  exact hl c hc2
 have hris : RisB (ins (subB [⟨name, t⟩] l) (posB l name) ⟨name, t⟩) := by
  have := ins_ris (y := ⟨name, t⟩) (subB_ris [⟨name, t⟩] h.ris) hsb
  rwa [subB_pos] at this
 have hone := one_bok hns hw hm
 have hput : ∀ b ∈ l, putT [⟨name, t⟩] b.t = b.t.sub (gB [⟨name, t⟩]) := fun b hb => putT_sub (qbA (h.el b hb).2.2) _
 have hGB : GB (ins (subB [⟨name, t⟩] l) (posB l name) ⟨name, t⟩) := by
  refine ⟨by rw [hlen]; omega, hris, fun b hb => ?_, fun b hb y hy => ?_⟩
  ·rcases (mem_ins _ _ _ _).1 hb with hb | rfl
   ·obtain ⟨c, hc2, rfl⟩ := List.mem_map.1 hb
    exact ⟨⟨(h.el c hc2).1.1, putT_wf hone (h.el c hc2).1.2⟩, (h.el c hc2).2.1, hg2 c hc2⟩
   ·exact ⟨⟨hns, hw⟩, hn, hm⟩
  ·rw [hh, Bool.or_eq_false_iff, decide_eq_false_iff_not]
   rcases (mem_ins _ _ _ _).1 hb with hb | rfl
   ·obtain ⟨c, hc2, rfl⟩ := List.mem_map.1 hb
    simp only at hy
    rw [hput c hc2, occ_sub _ _ _ (qdT (h.el c hc2).2.2)] at hy
    obtain ⟨x, hx, hy⟩ := hy
    rw [gB_one] at hy
    split at hy
    ·exact ⟨hf y hy, fun e => ho (e ▸ hy)⟩
    ·rename_i hne
     rw [varT_occ] at hy; subst hy
     exact ⟨h.idem c hc2 x hx, hne⟩
   ·exact ⟨hf y hy, fun e => ho (e ▸ hy)⟩
 refine ⟨hGB, hlen, fun y => ?_, hh⟩
 rcases gB_cases h.ris y with ⟨b, hb, rfl, e⟩ | ⟨hn2, e⟩
 ·rw [e]
  have := gB_mem hris (b := ⟨b.name, putT [⟨name, t⟩] b.t⟩) ((mem_ins _ _ _ _).2 (.inl (List.mem_map.2 ⟨b, hb, rfl⟩)))
  simp only at this
  rw [this, hput b hb]
 ·rw [e, varT_sub, gB_one]
  split
  ·rename_i hy; subst hy
   exact gB_mem hris (b := ⟨name, t⟩) ((mem_ins _ _ _ _).2 (.inr E))
  ·rename_i hy
   exact gB_none hris (by rw [hh, hn2]; simpa using hy)
def TK (t : Tm) : Prop := t.shp ∧ dle 5 t ∧ t.wf
def PK (p : Tm × Tm) : Prop := TK p.1 ∧ TK p.2
theorem TK_may {t : Tm} (h : mayT t = true) (hw : t.wf) : TK t := ⟨qdT h, qbA h, hw⟩
theorem TK.arg {t u : Tm} (h : TK t) (hu : u ∈ t.args) : TK u := ⟨h.1.arg hu, dle_mono 4 5 u (by omega) (h.2.1 u hu), Tm.wfs_mem h.2.2.2.2.2.2 hu⟩
theorem occB_iff {t : Tm} (h : dle 5 t) (s : ByteArray) : occB t s = true ↔ t.occ s := by
 rw [occB, List.any_eq_true]
 constructor
 ·rintro ⟨y, hy, e⟩
  simp only [decide_eq_true_eq] at e; subst e
  exact (note5 h y).1 hy
 ·intro ho; exact ⟨s, (note5 h s).2 ho, by simp⟩
theorem stands_spec {l : List Bd} (h : GB l) {x : ByteArray} {u : Tm} (hx : varB x = true) (hxs : x.size ≤ 140737488351232) (hw : u.wf) (hm : mayT u = true) (hl : hasB l x = false) (hf : ∀ y, u.occ y → hasB l y = false) (hne : u ≠ varT x) :
    standsE l x u = 2 ∨ (standsE l x u = 3 ∧ ∀ θ : ByteArray → Tm, θ x ≠ u.sub θ) ∨ (standsE l x u = 0 ∧ GB (standsL l x u) ∧ (standsL l x u).length = l.length + 1 ∧ (∀ y, gB (standsL l x u) y = (gB l y).sub (gB [⟨x, u⟩])) ∧ ∀ y, hasB (standsL l x u) y = (hasB l y || decide (x = y))) := by
  have hs := qdT hm
  rw [standsE, standsL]
  cases hc : occB u x with
  | true =>
    rw [occB_iff (qbA hm)] at hc
    rw [if_pos rfl]
    refine .inr (.inl ⟨rfl, fun θ e => ?_⟩)
    have hk : u.kind ≠ 1 := fun hk => by
      have hv := (hs.var hk).1
      rw [hv, Tm.occ_iff] at hc
      simp only [List.not_mem_nil, false_and, exists_false, or_false, true_and] at hc
      rw [hc] at hv; exact hne hv
    have := (sz_occ θ hs hc).2 hk
    rw [e] at this; omega
  | false =>
    have ho : ¬ u.occ x := fun ho => by rw [(occB_iff (qbA hm) x).2 ho] at hc; cases hc
    rw [if_neg (by simp), if_neg (by simp)]
    by_cases he : standE l x u = 0
    · obtain ⟨h1, h2, h3, h4⟩ := stand_spec h hx hxs hw hm hl ho hf he
      exact .inr (.inr ⟨he, h1, h2, h3, h4⟩)
    · left
      unfold standE at he ⊢
      split
      · rfl
      · rename_i hh; rw [if_neg hh] at he; exact absurd E he
def OneOk (l : List Bd) (a b : Tm) (q : List Bd × List (Tm × Tm) × Int) : Prop :=
 mayT a = true ∧ mayT b = true ∧ ((q = (l, [], 0) ∧ a = b) ∨
  (∃ x u, ((a = varT x ∧ b = u) ∨ (b = varT x ∧ a = u)) ∧ u.shp ∧ q.2 = ([], 0) ∧ GB q.1 ∧ q.1.length = l.length + 1 ∧ (∀ y, gB q.1 y = (gB l y).sub (gB [⟨x, u⟩])) ∧ ∀ y, hasB q.1 y = (hasB l y || decide (x = y))) ∨
  (q = (l, a.args.zip b.args, 0) ∧ a.kind ≠ 1 ∧ b.kind ≠ 1 ∧ a.kind = b.kind ∧ a.name = b.name ∧ a.n = b.n ∧ a.args.length = b.args.length))
theorem one_spec {l : List Bd} (h : GB l) {p : Tm × Tm} (hp : PK p) :
  (oneR l p).2.2 = 2 ∨ ((oneR l p).2.2 = 3 ∧ ∀ θ : ByteArray → Tm, (p.1.sub (gB l)).sub θ ≠ (p.2.sub (gB l)).sub θ) ∨ OneOk l (p.1.sub (gB l)) (p.2.sub (gB l)) (oneR l p) := by
 have e1 := putT_sub hp.1.2.1 l
 have e2 := putT_sub hp.2.2.1 l
 have w1 := putT_wf h.bok hp.1.2.2
 have w2 := putT_wf h.bok hp.2.2.2
 have f1 : ∀ y, (p.1.sub (gB l)).occ y → hasB l y = false := fun y => ap_occ h hp.1.1
 have f2 : ∀ y, (p.2.sub (gB l)).occ y → hasB l y = false := fun y => ap_occ h hp.2.1
 have hi : ∀ t, intoE l t = 0 ∨ intoE l t = 2 := fun t => by unfold intoE; split <;> simp
 unfold oneR
 by_cases c0 : intoE l p.1 = 0
 case neg => rw [if_pos c0]; rcases hi p.1 with h | h; exact absurd h c0; exact .inl h
 rw [if_neg (by simp [c0])]
 by_cases c1 : intoE l p.2 = 0
 case neg => rw [if_pos c1]; rcases hi p.2 with h | h; exact absurd h c1; exact .inl h
 rw [if_neg (by simp [c1])]
 have m1 := (into_may c0).1
 have m2 := (into_may c1).1
 rw [e1] at w1 m1
 rw [e2] at w2 m2
 rw [e1, e2]
 generalize p.1.sub (gB l) = a at *
 generalize p.2.sub (gB l) = b at *
 have s1 := qdT m1
 have s2 := qdT m2
 have key : ∀ (x : ByteArray) (u : Tm), ((a = varT x ∧ b = u) ∨ (b = varT x ∧ a = u)) → u ≠ varT x → u.wf → mayT u = true → (∀ y, u.occ y → hasB l y = false) → varB x = true → x.size ≤ 140737488351232 → hasB l x = false →
   (standsE l x u = 2 ∨ (standsE l x u = 3 ∧ ∀ θ : ByteArray → Tm, a.sub θ ≠ b.sub θ) ∨ OneOk l a b (standsL l x u, [], standsE l x u)) := fun x u hab hne hw hm hf hx hxs hl => by
  rcases stands_spec h hx hxs hw hm hl hf hne with h1 | ⟨h1, h2⟩ | ⟨h1, h2, h3, h4, h5⟩
  ·exact .inl h1
  ·refine .inr (.inl ⟨h1, fun θ e => ?_⟩)
   rcases hab with ⟨rfl, rfl⟩ | ⟨rfl, rfl⟩
   ·rw [varT_sub] at e; exact h2 θ e
   ·rw [varT_sub] at e; exact h2 θ e.symm
  ·exact .inr (.inr ⟨m1, m2, .inr (.inl ⟨x, u, hab, qdT hm, by rw [h1], h2, h3, h4, h5⟩)⟩)
 split
 ·rename_i hc
  have ea := (s1.var hc.1).1
  have eb := (s2.var hc.2.1).1
  exact .inr (.inr ⟨m1, m2, .inl ⟨rfl, by rw [ea, eb, hc.2.2]⟩⟩)
 rename_i n0
 split
 ·rename_i hc
  have ea := s1.var hc.1
  refine key a.name b (.inl ⟨ea.1, rfl⟩) (fun e => ?_) w2 m2 f2 ea.2 w1.2.1 (f1 _ ((Tm.occ_iff _ _).2 (.inl ⟨hc.1, rfl⟩)))
  have hbk : b.kind = 1 := by rw [e]; rfl
  have hbn : b.name = a.name := by rw [e]; rfl
  exact n0 ⟨hc.1, hbk, hbn.symm⟩
 rename_i n1
 split
 ·rename_i hc
  have eb := s2.var hc
  refine key b.name a (.inr ⟨eb.1, rfl⟩) (fun e => ?_) w1 m1 f1 eb.2 w2.2.1 (f2 _ ((Tm.occ_iff _ _).2 (.inl ⟨hc, rfl⟩)))
  have hak : a.kind = 1 := by rw [e]; rfl
  have han : a.name = b.name := by rw [e]; rfl
  exact n0 ⟨hak, hc, han⟩
 rename_i n2
 have hak : a.kind ≠ 1 := fun hk => n1 ⟨hk, .inl n2⟩
 split
 ·rename_i hc
  rw [argsL, if_pos hc]
  simp only [argsB, Bool.and_eq_true, decide_eq_true_eq] at hc
  exact .inr (.inr ⟨m1, m2, .inr (.inr ⟨rfl, hak, n2, hc.1.1.1, hc.1.1.2, hc.1.2, hc.2⟩)⟩)
 ·rename_i hc
  refine .inr (.inl ⟨rfl, fun θ e => ?_⟩)
  rw [Tm.sub_eq, if_neg hak, Tm.sub_eq, if_neg n2] at e
  simp only [Tm.mk.injEq] at e
  apply hc
  have := congrArg List.length e.2.2.2
  simp only [List.length_map] at this
  simp [argsB, e.1, e.2.1, e.2.2.1, this]
def uIter : Nat → List Bd → List (Tm × Tm) → Option (List Bd × Int)
 | _, l, [] => some (l, 0)
 | 0, _, _ :: _ => none
 | n + 1, l, p :: ps => if (oneR l p).2.2 ≠ 0 then some ([], (oneR l p).2.2) else uIter n (oneR l p).1 ((oneR l p).2.1 ++ ps)
theorem PK_zip {a b : Tm} (ha : TK a) (hb : TK b) : ∀ p ∈ a.args.zip b.args, PK p := fun p hp => by
 have := List.of_mem_zip hp
 exact ⟨ha.arg this.1, hb.arg this.2⟩
theorem one_keeps {l : List Bd} (h : GB l) {p : Tm × Tm} (hp : PK p) (he : (oneR l p).2.2 = 0) : GB (oneR l p).1 ∧ (∀ q ∈ (oneR l p).2.1, PK q) ∧ OneOk l (p.1.sub (gB l)) (p.2.sub (gB l)) (oneR l p) := by
 have e1 := putT_sub hp.1.2.1 l
 have e2 := putT_sub hp.2.2.1 l
 have w1 := putT_wf h.bok hp.1.2.2
 have w2 := putT_wf h.bok hp.2.2.2
 rw [e1] at w1
 rw [e2] at w2
 rcases one_spec h hp with h1 | ⟨h1, _⟩ | h1
 ·rw [h1] at he; cases he
 ·rw [h1] at he; cases he
 ·refine ⟨?_, ?_, h1⟩
  ·obtain ⟨_, _, ⟨e, _⟩ | ⟨x, u, _, _, e, hg, _⟩ | ⟨e, _⟩⟩ := h1
   ·rw [e]; exact h
   ·exact hg
   ·rw [e]; exact h
  ·obtain ⟨m1, m2, ⟨e, _⟩ | ⟨x, u, _, _, e, hg, _⟩ | ⟨e, _⟩⟩ := h1
   ·rw [e]; intro q hq; cases hq
   ·rw [e]; intro q hq; cases hq
   ·rw [e]; exact PK_zip (TK_may m1 w1) (TK_may m2 w2)
def wgh (l : List Bd) (ps : List (Tm × Tm)) : Nat := (ps.map fun p => (p.1.sub (gB l)).sz).sum
theorem wgh_cons (l : List Bd) (p : Tm × Tm) (ps : List (Tm × Tm)) : wgh l (p :: ps) = (p.1.sub (gB l)).sz + wgh l ps := by simp [wgh]
theorem wgh_append (l : List Bd) (ps qs : List (Tm × Tm)) : wgh l (ps ++ qs) = wgh l ps + wgh l qs := by simp [wgh]
theorem wgh_zip {l : List Bd} (h : GB l) {p : Tm × Tm} (hp : PK p) {bs : List Tm} (hlen : (p.1.sub (gB l)).args.length = bs.length) : 1 + wgh l ((p.1.sub (gB l)).args.zip bs) = (p.1.sub (gB l)).sz := by
 rw [Tm.sz_eq (p.1.sub (gB l)), wgh]
 have hs := ap_shp h hp.1.1
 have ho : ∀ y, (p.1.sub (gB l)).occ y → hasB l y = false := fun y => ap_occ h hp.1.1
 have e : (((p.1.sub (gB l)).args.zip bs).map fun p => (p.1.sub (gB l)).sz) = (((p.1.sub (gB l)).args.zip bs).map Prod.fst).map fun u => (u.sub (gB l)).sz := by rw [List.map_map]; rfl
 rw [e, List.map_fst_zip (by omega)]
 have e2 : ((p.1.sub (gB l)).args.map fun u => (u.sub (gB l)).sz) = (p.1.sub (gB l)).args.map Tm.sz := List.map_congr_left fun u hu => by
  rw [gB_id h (hs.arg hu) fun y hy => ho y ((Tm.occ_iff _ _).2 (.inr ⟨u, hu, hy⟩))]
 rw [e2]
def WI (l : List Bd) (ps : List (Tm × Tm)) : Prop := ∃ pend rest, ps = pend ++ rest ∧ wgh l pend ≤ 24 ∧ rest.length ≤ 24 * (l.length + 1)
theorem wgh_len (l : List Bd) : ∀ ps, ps.length ≤ wgh l ps
  | [] => Nat.zero_le _
  | p :: ps => by
    have := wgh_len l ps
    have := Tm.sz_pos (p.1.sub (gB l))
    rw [wgh_cons, List.length_cons]; omega
theorem WI.len {l : List Bd} {ps : List (Tm × Tm)} (h : WI l ps) (hl : l.length ≤ 16) : ps.length ≤ 432 := by
 obtain ⟨pend, rest, rfl, h1, h2⟩ := h
 have := wgh_len l pend
 rw [List.length_append]; omega
theorem WI.step {l : List Bd} (h : GB l) {p : Tm × Tm} (hp : PK p) {ps : List (Tm × Tm)} (hw : WI l (p :: ps)) (he : (oneR l p).2.2 = 0) : WI (oneR l p).1 ((oneR l p).2.1 ++ ps) := by
  obtain ⟨g1, g2, g3⟩ := one_keeps h hp he
  obtain ⟨pend, rest, e0, h1, h2⟩ := hw
  cases pend with
  | nil =>
    simp only [List.nil_append] at e0
    subst e0
    simp only [List.length_cons] at h2
    obtain ⟨m1, m2, ⟨e, _⟩ | ⟨x, u, _, _, e, _, hl, _⟩ | ⟨e, _, _, _, _, _, hlen⟩⟩ := g3
    · rw [e]; exact ⟨[], ps, rfl, by simp [wgh], by simp only; omega⟩
    · rw [e]; exact ⟨[], ps, rfl, by simp [wgh], by rw [hl]; omega⟩
    · rw [e]
      have := wgh_zip h hp hlen
      have hz := ((mayT_iff _).1 m1).2.2
      exact ⟨_, ps, rfl, by simp only; omega, by simp only; omega⟩
  | cons q pend =>
    simp only [List.cons_append, List.cons.injEq] at e0
    obtain ⟨rfl, rfl⟩ := e0
    rw [wgh_cons] at h1
    have hpos := Tm.sz_pos (p.1.sub (gB l))
    obtain ⟨m1, m2, ⟨e, _⟩ | ⟨x, u, _, _, e, _, hl, _⟩ | ⟨e, _, _, _, _, _, hlen⟩⟩ := g3
    · rw [e]; exact ⟨pend, rest, rfl, by simp only; omega, h2⟩
    · rw [e]
      refine ⟨[], pend ++ rest, rfl, by simp [wgh], ?_⟩
      have := wgh_len l pend
      rw [hl, List.length_append]; omega
    · rw [e]
      have := wgh_zip h hp hlen
      refine ⟨(p.1.sub (gB l)).args.zip (p.2.sub (gB l)).args ++ pend, rest, by simp, ?_, h2⟩
      rw [wgh_append]; simp only; omega
def uSt : Nat → List Bd × List (Tm × Tm) → List Bd × List (Tm × Tm)
  | 0, s => s
  | k + 1, s => match uSt k s with
    | (l, []) => (l, [])
    | (l, p :: ps) => ((oneR l p).1, (oneR l p).2.1 ++ ps)
theorem uSt_step {k : Nat} {s : List Bd × List (Tm × Tm)} {p : Tm × Tm} {ps : List (Tm × Tm)} (h : (uSt k s).2 = p :: ps) : uSt (k + 1) s = ((oneR (uSt k s).1 p).1, (oneR (uSt k s).1 p).2.1 ++ ps) := by
 rw [uSt]
 split
 ·rename_i e; rw [e] at h; cases h
 ·rename_i e; rw [e] at h ⊢; simp only [List.cons.injEq] at h; obtain ⟨rfl, rfl⟩ := h; rfl
def UI (n : Nat) (s : List Bd × List (Tm × Tm)) (R : List Bd × Int) (k : Nat) : Prop := k ≤ n ∧ GB (uSt k s).1 ∧ (∀ p ∈ (uSt k s).2, PK p) ∧ WI (uSt k s).1 (uSt k s).2 ∧ uIter (n - k) (uSt k s).1 (uSt k s).2 = some R
theorem UI.step {n : Nat} {s : List Bd × List (Tm × Tm)} {R : List Bd × Int} {k : Nat} (h : UI n s R k) {p : Tm × Tm} {ps : List (Tm × Tm)} (hp : (uSt k s).2 = p :: ps) : k < n ∧ ((oneR (uSt k s).1 p).2.2 = 0 → UI n s R (k + 1)) ∧ ((oneR (uSt k s).1 p).2.2 ≠ 0 → R = ([], (oneR (uSt k s).1 p).2.2)) := by
 obtain ⟨h1, h2, h3, h4, h5⟩ := h
 rw [hp] at h3 h4 h5
 have hk : k < n := by
  rcases Nat.lt_or_ge k n with h | h
  ·exact h
  ·rw [show n - k = 0 by omega, uIter] at h5; cases h5
 rw [show n - k = (n - (k + 1)) + 1 by omega, uIter] at h5
 refine ⟨hk, fun he => ?_, fun he => ?_⟩
 ·rw [if_neg (by simp [he])] at h5
  obtain ⟨g1, g2, _⟩ := one_keeps h2 (h3 p (by simp)) he
  rw [UI, uSt_step hp]
  exact ⟨hk, g1, fun q hq => by
   rcases List.mem_append.1 hq with hq | hq
   ·exact g2 q hq
   ·exact h3 q (by simp [hq]), WI.step h2 (h3 p (by simp)) h4 he, h5⟩
 ·rw [if_pos he] at h5; exact (Option.some.inj h5).symm
end Go.Proofs.YtpgceiijoedppaaGreat

namespace Go.Proofs.YtpgceiijoedppaaGreat
open Go Go.RowKit
structure Ask2 where
 B : List (List Bd)
 T : List Tm
 S : List ByteArray
def Ask2.wf (p : Ask2) : Prop := (qba p.B ∧ ∀ l ∈ p.B, qba l ∧ ∀ b ∈ l, b.wf) ∧ (qba p.T ∧ Tm.wfs p.T) ∧ (qba p.S ∧ ∀ s ∈ p.S, s.size ≤ 140737488351232)
end Go.Proofs.YtpgceiijoedppaaGreat

namespace Go.Proofs.YtpgceiijoedppaaGreat
open Go
theorem sub_le {c : Ctx} {N : Nat} {T : List (Nat × AV)} {O : List (Nat × Ob)} (t : Nat) {v u : AV} (ht : lk T t = some v) (hle : Le v u) : Sub c N ⟨T, O⟩ ⟨(t, u) :: T, O⟩ := by
 rintro a w ⟨ρ, S, hc⟩
 have hev := hc.T t _ ht
 refine ⟨ρ, S, { hc with tm := hc.tm, T := fun s x hs => ?_ }⟩
 simp only [qcd] at hs
 split at hs
 ·rename_i e'; subst e'
  simp only [Option.some.injEq] at hs; subst hs
  exact hle.rep hev
 ·exact hc.T s x hs
theorem tm_wf1 {k : Int} {s : ByteArray} {n : Int} {l : List Tm} (hk : -9223372036854775808 ≤ k ∧ k ≤ 9223372036854775807) (hs : s.size ≤ 140737488351232) (hn : -9223372036854775808 ≤ n ∧ n ≤ 9223372036854775807) (hl : l.length * 56 ≤ 140737488351232) (h : ∀ t ∈ l, t.wf) : (Tm.mk k s n l).wf := ⟨hk, hs, hn, hl, wfs_of h⟩
abbrev nmT (s : ByteArray) (l : List Tm) : Tm := ⟨3, s, 0, l⟩
theorem nmT_w (s : ByteArray) (l : List Tm) (h : s.size ≤ 140737488351232) (hl : l.length * 56 ≤ 140737488351232) (hw : ∀ t ∈ l, t.wf) : (nmT s l).wf := tm_wf1 (by decide) h (by decide) hl hw
abbrev sC : ByteArray := ⟨#[99]⟩
def eqBd (a b : Bd) : Bool := decide (a.name = b.name) && eqT 5 a.t b.t
theorem EqBind_ok (a b : Bd) (hd : dle 5 a.t) (ha : a.wf) (hb : b.wf) : PF 118 [.agg (lift false (bdD a)), .agg (lift false (bdD b))] (bv (eqBd a b)) := by
 have ha2 := ha.2
 have hb2 := hb.2
 refine qF Tryz.func118 E Tryz.ntmps118 zL fun c hL hQ hDD => (qd (qb (qy E E zD (qaa 2 E E E) E (qy E E zD (qaa 3 E E E) E (zX E (zK ?_)))))); refine qd (qb (zA E (qe E qaG E) (zA E (ql E qaf E E E E E) (zA E (qe E qaG E) (zA E (ql E qaf E E E E E) (zA E (qbV E E E E) (zX E (qt 10 E (fun g10 => ?_) (fun g10 => ?_)))))))))
 ·try simp only[↓cqA,cqB]at g10
  refine zZ E (qe E qaZ E) (zZ E (ql E qw E E E E E) (zZ E (qe E qaZ E) (zZ E (ql E qw E E E E E) (zZ E (qY (avs := [_, _]) true E qbh E E (EqTerm_ok 5 a.t b.t hd ha2 hb2) (fun _ => rfl) E) (zA E (qg E E E) (zX E (zK (qo (zI hL (qh E qi) ?_ ?_)))))))))
  ·rfl
  refine ⟨qT ?_, rfl⟩
  simp_all [eqBd]
 try simp only[↓cqA,cqB]at g10
 refine zY E (zY E (zY E (zY E (zY E (zA E (qg E E E) (zX E (qc ?_))))))); refine qa (qo (zI hL (qh E qi) ?_ ?_))
 ·rfl
 refine ⟨qT ?_, rfl⟩
 simp_all [eqBd]
def eqBds : List Bd → List Bd → Bool
 | [], [] => true
 | a :: l, b :: m => eqBd a b && eqBds l m
 | _, _ => false
theorem eqBds_len : ∀ {l m : List Bd}, l.length ≠ m.length → eqBds l m = false
 | [], [], h => absurd E h
 | a :: l, b :: m, h => by simp only [eqBds, eqBds_len (l := l) (m := m) (by simpa using h), Bool.and_false]
 | [], _ :: _, _ => rfl
 | _ :: _, [], _ => rfl
theorem eqBds_true : ∀ {l m : List Bd}, l.length = m.length → (∀ (j : Nat) (a b : Bd), l[j]? = some a → m[j]? = some b → eqBd a b = true) → eqBds l m = true
  | [], [], _, _ => rfl
  | a :: l, b :: m, hl, h => by
    have h0 := h 0 a b E E
    have ih := eqBds_true (l := l) (m := m) (by simpa using hl) (fun j x y hx hy => h (j + 1) x y (by simpa using hx) (by simpa using hy))
    simp [eqBds, h0, ih]
  | [], _ :: _, hl, _ => by simp at hl
  | _ :: _, [], hl, _ => by simp at hl
theorem eqBds_false : ∀ {l m : List Bd} (k : Nat) {a b : Bd}, l[k]? = some a → m[k]? = some b → eqBd a b = false → eqBds l m = false
  | a :: l, b :: m, 0, x, y, hx, hy, h => by
    simp only [List.getElem?_cons_zero, Option.some.injEq] at hx hy
    subst hx; subst hy
    simp [eqBds, h]
  | a :: l, b :: m, k + 1, x, y, hx, hy, h => by
    have := eqBds_false (l := l) (m := m) k (by simpa using hx) (by simpa using hy) h
    simp [eqBds, this]
  | [], _, _, _, _, hx, _, _ => by simp at hx
  | _ :: _, [], _, _, _, _, hy, _ => by simp at hy
theorem EqBinds_ok (x y : List Bd) (hd : ∀ u ∈ x, dle 5 u.t) (wx : ∀ u ∈ x, u.wf) (wy : ∀ u ∈ y, u.wf) (lx : x.length ≤ 140737488351232) (ly : y.length ≤ 140737488351232) : PF 69 [bdA x, bdA y] (bv (eqBds x y)) := by
 have hlx := qaR x
 have hly := qaR y
 refine qF Tryz.func69 E Tryz.ntmps69 zL fun c hL hQ hDD => (qd (qb (zX E (zK (qd (qd ?_)))))); refine qb (zX E (zA E (qu E qO E) (zX E (zA E (qu E qO E) (zA E (qj E E E E) (zK (qq E (fun c0 => ?_) (fun c0 => ?_))))))))
 ·try simp only[↓cqA,cqB]at c0
  refine qd (qb (zX E (zK (qo (qm (zI hL (qh E qi) ?_ ?_))))))
  ·rfl
  exact ⟨qT (eqBds_len (by omega)).symm, rfl⟩
 try simp only[↓cqA,cqB]at c0
 refine qr (qa (qd (qd (qb (zX E (zK ?_)))))); refine qv (q6 (x.length) (fun k => k ≤ x.length ∧ ∀ j a b, j < k → x[j]? = some a → y[j]? = some b → eqBd a b = true) (fun k => ⟨[(0, bdA x), (1, bdA y), (5, iv (k : Int))], []⟩) (⟨by omega, fun j a b hj => absurd hj (by omega)⟩) ?_ (fun k hk hp => ?_))
 ·exact zR hL (zC E (zC E (zC E SubT.nil))) SubO.nil
 refine qd (qd (qb (zX E (zX E (zA E (qu E qO E) (zA E (qj E E E E) (qc ?_))))))); refine qa (qq E (fun c1 => ?_) (fun c1 => ?_))
 ·try simp only[↓cqA,cqB]at c1
  obtain ⟨u, hu⟩ := qH (l := x) (k := k) (by omega)
  obtain ⟨v, hv⟩ := qH (l := y) (k := k) (by omega)
  refine qr (qa (qd (qv (qd (qZ 8 mixed E E E E (qf E zD (.run E (qk (.inl E) E)) (qf E zD (.run E (qk (.inl E) E)) ?_))))))); refine qf E zD (.run E (qp E qO E E (by omega) (qbe hu))) (qf E zD (.run E (qC E qaT E E)) (qf E zD (.run E (qk (.inl E) E)) (qf E zD (.run E (qk (.inl E) E)) (qf E zD (.run E (qp E qO E E (by omega) (qbe hv))) (qf E zD (.run E (qC E qaT E E)) ?_)))))
  refine qak ⟨rfl, rfl, ?_⟩; refine qE (avs := [_, _]) true E E E zD en_almagestref0_EqBind E E (EqBind_ok u v (hd u (List.mem_of_getElem? hu)) (wx u (List.mem_of_getElem? hu)) (wy v (List.mem_of_getElem? hv))) E E (zA E (qal E E) (zK (qq E (fun c2 => ?_) (fun c2 => ?_))))
  ·try simp only[↓cqA,cqB]at c2
   refine qd (qb (zX E (zK (qo (qS (qm (qm (qS (qm (zI hL (qh E qi) ?_ ?_))))))))))
   ·rfl
   exact ⟨qT (eqBds_false k hu hv c2).symm, rfl⟩
  try simp only[↓cqA,cqB]at c2
  refine qr (qP (qa (qb (zX E (zA E (qJ E E E (by omega)) (zX E (qc ?_))))))); refine qa ?_; refine ⟨?_, ?_, ?_⟩
  ·omega
  ·refine ⟨by omega, fun j a b hj ha hb => ?_⟩
   by_cases hjk : j < k
   ·exact hp.2 j a b hjk ha hb
   ·rw [show j = k by omega] at ha hb; rw [hu] at ha; rw [hv] at hb; cases ha; cases hb; exact c2
  exact zR hL (zC E (zC E (zC E SubT.nil))) SubO.nil
 try simp only[↓cqA,cqB]at c1
 refine qQ (qn (qn (qX ?_))); refine qa (qd (qb (zX E (zK (qo (zI hL (qh E qi) ?_ ?_))))))
 ·rfl
 exact ⟨qT (eqBds_true (by omega) (fun j a b ha hb => hp.2 j a b (by have := (List.getElem?_eq_some_iff.1 ha).1; omega) ha hb)).symm, rfl⟩
theorem eqL_iff (f : Tm → Tm → Bool) : ∀ (l m : List Tm), (∀ u v, u ∈ l → (f u v = true ↔ u = v)) → (eqL f l m = true ↔ l = m)
  | [], [], _ => by simp [eqL]
  | [], _ :: _, _ => by simp [eqL]
  | _ :: _, [], _ => by simp [eqL]
  | a :: l, b :: m, h => by
    have ih := eqL_iff f l m (fun u v hu => h u v (by simp [hu]))
    simp only [eqL, Bool.and_eq_true, h a b (by simp), ih, List.cons.injEq]
theorem bext {a b : ByteArray} (h : a.data.toList = b.data.toList) : a = b := by
 cases a; cases b; congr 1; exact Array.toList_inj.1 h
theorem eqT_iff : ∀ (d : Nat) (a b : Tm), dle d a → (eqT d a b = true ↔ a = b)
  | 0, a, b, h => h.elim
  | d + 1, a, b, h => by
    have ih := eqL_iff (eqT d) a.args b.args (fun u v hu => eqT_iff d u v (h u hu))
    rw [eqT]
    simp only [Bool.and_eq_true, decide_eq_true_eq, ih, data_inj]
    cases a; cases b
    simp only [Tm.mk.injEq]
    constructor
    · rintro ⟨⟨⟨h1, h2⟩, h3⟩, h4⟩; exact ⟨h1, bext h2, h3, h4⟩
    · rintro ⟨h1, h2, h3, h4⟩; exact ⟨⟨⟨h1, by rw [h2]⟩, h3⟩, h4⟩
theorem eqT_self {a : Tm} (h : dle 5 a) : eqT 5 a a = true := (eqT_iff 5 a a h).2 rfl
theorem lookT_mem {l : List Bd} (h : RisB l) {b : Bd} (hb : b ∈ l) : lookT l b.name = b.t := by
 have hs : hasB l b.name = true := (hasB_iff _ _).2 ⟨b, hb, rfl⟩
 have h1 := gB_mem h hb
 have h2 := (lookB_has l b.name h).1
 rw [hs] at h2
 rw [gB] at h1
 rw [lookT]
 cases hh : lookB l b.name with
 | none => rw [hh] at h2; cases h2
 | some t => rw [hh] at h1; exact h1
mutual
def fitR : Nat → List Bd → Tm → Tm → List Bd × Int
 | 0, _, _, _ => ([], 3)
 | d + 1, l, a, b => if a.kind = 1 then (if hasB l a.name = true then (if cmpT 5 (lookT l a.name) b = 0 then (l, 0) else ([], 3)) else (standL l a.name b, standE l a.name b)) else if argsB a b = true then fitL d l (a.args.zip b.args) else ([], 3)
def fitL : Nat → List Bd → List (Tm × Tm) → List Bd × Int
 | _, l, [] => (l, 0)
 | d, l, p :: ps => if (fitR d l p.1 p.2).2 ≠ 0 then ([], (fitR d l p.1 p.2).2) else fitL d (fitR d l p.1 p.2).1 ps
end
theorem fitL_snoc (d : Nat) (p : Tm × Tm) : ∀ (ps : List (Tm × Tm)) (l : List Bd), (fitL d l ps).2 = 0 → fitL d l (ps ++ [p]) = if (fitR d (fitL d l ps).1 p.1 p.2).2 ≠ 0 then ([], (fitR d (fitL d l ps).1 p.1 p.2).2) else ((fitR d (fitL d l ps).1 p.1 p.2).1, 0)
  | [], l, _ => by simp only [List.nil_append, fitL]
  | q :: ps, l, h => by
    rw [fitL] at h
    rw [List.cons_append, fitL, fitL]
    split at h
    · rename_i hc; exact absurd h hc
    · rename_i hc
      rw [if_neg hc, if_neg hc]
      exact fitL_snoc d p ps _ h
theorem qdB (d : Nat) : ∀ (ps qs : List (Tm × Tm)) (l : List Bd), (fitL d l ps).2 ≠ 0 → fitL d l (ps ++ qs) = fitL d l ps
  | [], qs, l, h => by rw [fitL] at h; exact absurd E h
  | q :: ps, qs, l, h => by
    rw [List.cons_append, fitL, fitL]
    rw [fitL] at h
    split
    · rfl
    · rename_i hc
      rw [if_neg hc] at h
      exact qdB d ps qs _ h
theorem may_arg {b v : Tm} (h : mayT b = true) (hv : v ∈ b.args) : mayT v = true := by
 rw [mayT_iff] at h ⊢
 refine ⟨h.1.arg hv, dle_mono 4 5 v (by omega) (h.2.1 v hv), ?_⟩
 have h2 := Tm.sz_eq b
 obtain ⟨i, hi⟩ := List.getElem?_of_mem hv
 have := sum_split (l := b.args) (k := i) (u := v) Tm.sz hi
 omega
def Gr (t : Tm) : Prop := ∀ y, ¬ t.occ y
theorem Gr.arg {t u : Tm} (h : Gr t) (hu : u ∈ t.args) : Gr u := fun y hy => h y ((Tm.occ_iff _ _).2 (.inr ⟨u, hu, hy⟩))
theorem Gr.sub {t : Tm} (h : Gr t) (hs : t.shp) (g : ByteArray → Tm) : t.sub g = t := sub_id hs fun y hy => absurd hy (h y)
theorem groundB_iff {t : Tm} (hd : dle 5 t) : groundB t = true ↔ Gr t := by
 rw [groundB, List.isEmpty_iff]
 constructor
 ·intro h y hy
  have := (note_occ y 5 t hd).2 hy
  rw [h] at this; cases this
 ·intro h
  exact List.eq_nil_iff_forall_not_mem.2 fun y hy => h y ((note_occ y 5 t hd).1 hy)
structure GG (l : List Bd) : Prop where
 gb : GB l
 gr : ∀ b ∈ l, Gr b.t
theorem GG_nil : GG [] := ⟨GB_nil, fun b hb => by cases hb⟩
theorem GG.get {l : List Bd} (h : GG l) {y : ByteArray} (hy : hasB l y = true) : Gr (gB l y) ∧ mayT (gB l y) = true := by
 obtain ⟨b, hb, rfl⟩ := (hasB_iff l y).1 hy
 rw [gB_mem h.gb.ris hb]
 exact ⟨h.gr b hb, (h.gb.el b hb).2.2⟩
theorem stand_ground {l : List Bd} (h : GG l) {x : ByteArray} {t : Tm} (hx : varB x = true) (hxs : x.size ≤ 140737488351232) (hw : t.wf) (hm : mayT t = true) (hg : Gr t) (hl : hasB l x = false) (he : standE l x t = 0) :
    GG (standL l x t) ∧ (standL l x t).length = l.length + 1 ∧ (∀ y, hasB l y = true → gB (standL l x t) y = gB l y) ∧ gB (standL l x t) x = t ∧ ∀ y, hasB (standL l x t) y = (hasB l y || decide (x = y)) := by
  obtain ⟨h1, h2, h3, h4⟩ := stand_spec h.gb hx hxs hw hm hl (hg x) (fun y hy => absurd hy (hg y)) he
  have k1 : ∀ y, hasB l y = true → gB (standL l x t) y = gB l y := fun y hy => by
    rw [h3, (h.get hy).1.sub (qdT (h.get hy).2)]
  have k2 : gB (standL l x t) x = t := by rw [h3, gB_none h.gb.ris hl, varT_sub, gB_one, if_pos rfl]
  refine ⟨⟨h1, fun b hb => ?_⟩, h2, k1, k2, h4⟩
  have e := gB_mem h1.ris hb
  have hh := h4 b.name
  rw [(hasB_iff _ _).2 ⟨b, hb, rfl⟩] at hh
  rw [← e]
  cases hc : hasB l b.name with
  | true => rw [k1 _ hc]; exact (h.get hc).1
  | false =>
    rw [hc] at hh
    have : x = b.name := by simpa using hh.symm
    rw [← this, k2]; exact hg
structure FitOk (l m : List Bd) (occ : ByteArray → Prop) : Prop where
 gg : GG m
 old : ∀ y, hasB l y = true → hasB m y = true ∧ gB m y = gB l y
 dom : ∀ y, hasB m y = true ↔ hasB l y = true ∨ occ y
theorem zip_map {f : Tm → Tm} : ∀ {x y : List Tm}, x.length = y.length → (∀ p ∈ x.zip y, f p.1 = p.2) → x.map f = y
  | [], [], _, _ => rfl
  | a :: x, b :: y, hl, h => by
    rw [List.map_cons, zip_map (x := x) (y := y) (by simpa using hl) fun p hp => h p (by simp [hp]), h (a, b) (by simp)]
  | [], _ :: _, hl, _ => by simp at hl
  | _ :: _, [], hl, _ => by simp at hl
mutual
theorem fit_spec : ∀ (d : Nat) (l : List Bd) (a b : Tm), GG l → a.shp → a.wf → mayT b = true → b.wf → Gr b → (fitR d l a b).2 = 0 → FitOk l (fitR d l a b).1 (fun y => a.occ y) ∧ a.sub (gB (fitR d l a b).1) = b
  | 0, l, a, b, _, _, _, _, _, _, h => by rw [fitR] at h; cases h
  | d + 1, l, a, b, hl, hs, hw, hm, hbw, hg, h => by
    rw [fitR] at h ⊢
    by_cases hk : a.kind = 1
    · rw [if_pos hk] at h ⊢
      have ev := hs.var hk
      have hocc : ∀ y, a.occ y ↔ a.name = y := fun y => by rw [ev.1]; exact varT_occ a.name y
      by_cases hh : hasB l a.name = true
      · rw [if_pos hh] at h ⊢
        by_cases hc : cmpT 5 (lookT l a.name) b = 0
        · rw [if_pos hc]
          obtain ⟨c, hc1, hc2⟩ := (hasB_iff l a.name).1 hh
          have e1 : lookT l a.name = c.t := by rw [← hc2, lookT_mem hl.gb.ris hc1]
          have e2 : gB l a.name = c.t := by rw [← hc2, gB_mem hl.gb.ris hc1]
          have e3 := (eqT_iff 5 _ _ (qbA (hl.gb.el c hc1).2.2)).1 ((cmpT_zero 5 _ _ (qbA (hl.gb.el c hc1).2.2)).1 (e1 ▸ hc))
          refine ⟨⟨hl, fun y hy => ⟨hy, rfl⟩, fun y => ⟨fun h => .inl h, ?_⟩⟩, ?_⟩
          · rintro (h | h)
            · exact h
            · rw [hocc] at h; rw [← h]; exact hh
          · rw [Tm.sub_eq, if_pos hk, e2, e3]
        · rw [if_neg hc] at h; cases h
      · rw [if_neg hh] at h ⊢
        have hno : hasB l a.name = false := by simpa using hh
        obtain ⟨g1, g2, g3, g4, g5⟩ := stand_ground hl ev.2 hw.2.1 hbw hm hg hno h
        refine ⟨⟨g1, fun y hy => ⟨by rw [g5, hy]; rfl, g3 y hy⟩, fun y => ?_⟩, ?_⟩
        · rw [g5, Bool.or_eq_true, decide_eq_true_eq, hocc]
        · rw [Tm.sub_eq, if_pos hk]; exact g4
    · rw [if_neg hk] at h ⊢
      by_cases hc : argsB a b = true
      · rw [if_pos hc] at h ⊢
        have hc2 := hc
        simp only [argsB, Bool.and_eq_true, decide_eq_true_eq] at hc2
        obtain ⟨f1, f2⟩ := fits_spec d (a.args.zip b.args) l hl (fun p hp => by
          have := List.of_mem_zip hp
          exact ⟨hs.arg this.1, Tm.wfs_mem hw.2.2.2.2 this.1, may_arg hm this.2, Tm.wfs_mem hbw.2.2.2.2 this.2, hg.arg this.2⟩) h
        refine ⟨⟨f1.gg, f1.old, fun y => ?_⟩, ?_⟩
        · rw [f1.dom, Tm.occ_iff]
          constructor
          · rintro (h | ⟨p, hp, h⟩)
            · exact .inl h
            · exact .inr (.inr ⟨p.1, (List.of_mem_zip hp).1, h⟩)
          · rintro (h | ⟨h, _⟩ | ⟨u, hu, h⟩)
            · exact .inl h
            · exact absurd h hk
            · obtain ⟨i, hi⟩ := List.getElem?_of_mem hu
              obtain ⟨v, hv⟩ := qH (l := b.args) (k := i) (by have := (List.getElem?_eq_some_iff.1 hi).1; omega)
              exact .inr ⟨(u, v), List.mem_of_getElem? (List.getElem?_zip_eq_some.2 ⟨hi, hv⟩), h⟩
        · rw [Tm.sub_eq, if_neg hk]
          rw [zip_map hc2.2 f2]
          cases a; cases b
          simp only at hc2 ⊢
          obtain ⟨⟨⟨rfl, rfl⟩, rfl⟩, _⟩ := hc2
          rfl
      · rw [if_neg hc] at h; cases h
theorem fits_spec : ∀ (d : Nat) (ps : List (Tm × Tm)) (l : List Bd), GG l → (∀ p ∈ ps, p.1.shp ∧ p.1.wf ∧ mayT p.2 = true ∧ p.2.wf ∧ Gr p.2) → (fitL d l ps).2 = 0 → FitOk l (fitL d l ps).1 (fun y => ∃ p ∈ ps, Tm.occ y p.1) ∧ ∀ p ∈ ps, p.1.sub (gB (fitL d l ps).1) = p.2
  | d, [], l, hl, _, _ => by
    rw [fitL]
    exact ⟨⟨hl, fun y hy => ⟨hy, rfl⟩, fun y => by simp⟩, fun p hp => by cases hp⟩
  | d, p :: ps, l, hl, hp, h => by
    rw [fitL] at h ⊢
    by_cases hc : (fitR d l p.1 p.2).2 = 0
    · rw [if_neg (by simp [hc])] at h ⊢
      obtain ⟨q1, q2, q3, q4, q5⟩ := hp p (by simp)
      obtain ⟨f1, f2⟩ := fit_spec d l p.1 p.2 hl q1 q2 q3 q4 q5 hc
      obtain ⟨g1, g2⟩ := fits_spec d ps _ f1.gg (fun q hq => hp q (by simp [hq])) h
      refine ⟨⟨g1.gg, fun y hy => ?_, fun y => ?_⟩, fun q hq => ?_⟩
      · obtain ⟨a1, a2⟩ := f1.old y hy
        obtain ⟨b1, b2⟩ := g1.old y a1
        exact ⟨b1, b2.trans a2⟩
      · rw [g1.dom, f1.dom]
        simp only [List.mem_cons, exists_eq_or_imp]
        exact or_assoc
      · rcases List.mem_cons.1 hq with rfl | hq
        · refine Eq.trans (sub_congr q.1 fun y hy => ?_) f2
          exact (g1.old y ((f1.dom y).2 (.inr hy))).2
        · exact g2 q hq
    · rw [if_pos hc] at h; exact absurd h hc
end
structure MI (m l : List Bd) (ps : List (Tm × Tm)) : Prop where
 gb : GB l
 le : ∀ y, hasB l y = true → hasB m y = true ∧ gB l y = gB m y
 ps : ∀ p ∈ ps, PK p ∧ Gr p.2 ∧ mayT p.2 = true ∧ p.1.sub (gB m) = p.2 ∧ ∀ y, p.1.occ y → hasB m y = true
theorem MI.gg {m l : List Bd} {ps : List (Tm × Tm)} (hm : GG m) (h : MI m l ps) : GG l := ⟨h.gb, fun b hb => by
 have hh := (hasB_iff l b.name).2 ⟨b, hb, rfl⟩
 obtain ⟨h1, h2⟩ := h.le _ hh
 rw [gB_mem h.gb.ris hb] at h2
 rw [h2]; exact (hm.get h1).1⟩
theorem MI.occ {m l : List Bd} {ps : List (Tm × Tm)} (hm : GG m) (h : MI m l ps) {p : Tm × Tm} (hp : p ∈ ps) {z : ByteArray} (hz : (p.1.sub (gB l)).occ z) : hasB m z = true ∧ hasB l z = false := by
 obtain ⟨h1, h2, h3, h4, h5⟩ := h.ps p hp
 refine ⟨?_, ap_occ h.gb h1.1.1 hz⟩
 obtain ⟨y, hy, hz⟩ := (occ_sub _ z p.1 h1.1.1).1 hz
 cases hc : hasB l y with
 | true => exact absurd hz (((h.gg hm).get hc).1 z)
 | false => rw [gB_none h.gb.ris hc, varT_occ] at hz; rw [← hz]; exact h5 y hy
theorem CopyTerms_of (l : List Tm) (hl : l.length * 56 ≤ 140737488351232) (hC : ∀ u ∈ l, PF 79 [tmA false u] (.agg (lift true (tmD u)))) : AC Tryz.prog 139 [.dat false 4 (tmDs l)] [] (fun r O => r = .row 3 ∧ O = [(3, .rowd 34 4 true (tmDs l))]) := by
 have hlen := qaJ l
 refine qF Tryz.func139 E Tryz.ntmps139 zL fun c hL hQ hDD => (qd (qb (zX E (zK (qd (qb ?_)))))); refine zX E (zK (qd (qd (qb (zX E (zK (qv (q6 (l.length) (fun k => k ≤ l.length) (fun k => ⟨[(0, .dat false 4 (tmDs l)), (3, .row 3), (4, iv (k : Int))], [(3, .rowd 34 4 true (tmDs (l.take k)))]⟩) (by omega) ?_ (fun k hk hp => ?_)))))))))
 ·exact Sub.trans (qaU (t := 3) (l := 3) 34 4 true E E) (qB (zC E (zC E (zC E SubT.nil))) (SubO.cons (qR E (by rfl)) SubO.nil) E E (noL' (noL hL) _))
 have hl2 : (tmDs (l.take k)).length ≤ l.length := by rw [qaJ, List.length_take]; omega
 refine qd (qd (qb (zX E (zX E (zA E (qu E qI E) (zA E (qj E E E E) (qc ?_))))))); refine qa (qq E (fun c0 => ?_) (fun c0 => ?_))
 ·try simp only[↓cqA,cqB]at c0
  obtain ⟨u, hu⟩ := qH (l := l) (k := k) (by omega)
  have hum := List.mem_of_getElem? hu
  refine qr (qa (qd (qv (qb (zX E (zX E (zX E ?_))))))); refine zA E (qp E qI E E (by omega) (qbv hu)) (zA E (qC E qw E E) (qE (avs := [_]) true E E E zD qdP E E (hC u hum) E E (qy E E zD (qam 17 E qI qaw E E zD zD zD E E E) E (qc1 E E zD (qa5 18 ta_S_api_Term E E E E E E E E (noL hL _) (by omega) E) E ?_))))
  refine zX E (qc (qP (qa (qb (zX E (zA E (qJ E E E (by omega)) (zX E ?_))))))); refine zK ?_; refine ⟨?_, ?_, ?_⟩
  ·omega
  ·omega
  exact Sub.trans (qaC 18 3 (noL hL _) (noL hL _)) (qB (zC E (zC E (zC E SubT.nil))) (SubO.cons (qR E (by rw [qac hu, show tmDs (l.take k ++ [u]) = tmDs (l.take k) ++ [tmD u] by rw [qdh, qdh, List.map_append]; rfl]; rfl)) SubO.nil) E E (noL' (noL hL) _))
 try simp only[↓cqA,cqB]at c0
 refine qQ (qn (qn (qX ?_))); refine qa (qd (qb (zX E (zX E (zK (qo ?_))))))
 change retQ _ _ _ _ _ _ _
 refine retO (O' := [(3, _)]) (.inl E) (qh E qi) (SubO.cons E SubO.nil) ?_ ?_ (noL' (noL hL) _) ?_
 ·rfl
 ·rfl
 exact ⟨rfl, by rw [List.take_of_length_le (by omega)]⟩
theorem CopyTerm_ok : ∀ (d : Nat) (t : Tm), dle d t → t.wf → PF 79 [tmA false t] (.agg (lift true (tmD t)))
  | 0, t, h, _ => h.elim
  | d + 1, t, h, ht => by
    have key := AC_rnE 3 77 (CopyTerms_of t.args ht.2.2.2.1 (fun u hu => CopyTerm_ok d u (h u hu) (Tm.wfs_mem ht.2.2.2.2 hu)))
    refine qF Tryz.func79 E Tryz.ntmps79 zL fun c hL hQ hDD => (qd (qb (qy E E zD (qaa 1 E E E) E (qy E E zD (qaD 2 E qaw E) E (zK (qd ?_)))))); refine qb (zA E (qK E qw E E E E) ?_)
    refine qy E E zD (qaD 3 E qaw E) E (qae E E E qw E E E E E E E E E (zK (qd (qb (zA E (qe E q8 E) (zA E (ql E q7 E E E E E) ?_)))))); refine qc1 E E zD (qcD (avs := [_]) true E en_almagestref0_CopyTerms E E (key) (fun _ => rfl) E) E ?_
    refine zA E (qe E q8 E) (qae E E E q7 E E E E E E E E E (zK (qd (qd3 (qa4 (l := 77) E zD (noL hL _) E E) (qb (zA E (qK E qw E E E E) ?_)))))); refine qae E E E qw E E E E E E E E E (zK (qo (zI hL (qbb qw E E E qi) ?_ ?_)))
    · rfl
    exact ⟨rfl, rfl⟩
theorem CopyBind_ok (d : Nat) (b : Bd) (hd : dle d b.t) (hb : b.wf) : PF 161 [.agg (lift false (bdD b))] (.agg (lift true (bdD b))) := by
 have hbt := hb.2
 refine qF Tryz.func161 E Tryz.ntmps161 zL fun c hL hQ hDD => (qd (qb (qy E E zD (qaa 1 E E E) E (qy E E zD (qaD 2 E qby E) E (zK (qd ?_)))))); refine qb (zA E (qK E qaT E E E E) ?_)
 refine qy E E zD (qaD 3 E qby E) E (qae E E E qaT E E E E E E E E E (zK (qd (qb (zA E (qe E qaZ E) (zA E (ql E qw E E E E E) ?_)))))); refine qE (avs := [_]) true E E E zD qdP E E (CopyTerm_ok d b.t hd hbt) E E ?_
 refine zA E (qe E qaZ E) (qae E E E qw E E E E E E E E E (zK (qd (qb (zA E (qK E qaT E E E E) (qae E E E qaT E E E E E E E E E ?_)))))); refine zK (qo (zI hL (qbb qaT E E E qi) ?_ ?_))
 ·rfl
 exact ⟨rfl, rfl⟩
theorem CopyBinds_ok (d : Nat) (l : List Bd) (hl : l.length ≤ 1000000000) (hd : ∀ b ∈ l, dle d b.t) (hw : ∀ b ∈ l, b.wf) : AC Tryz.prog 104 [bdA l] [] (fun r O => r = .row 3 ∧ O = [(3, .rowd 143 5 true (bdDs l))]) := by
 have hlen := qaR l
 refine qF Tryz.func104 E Tryz.ntmps104 zL fun c hL hQ hDD => (qd (qb (zX E (zK (qd (qb ?_)))))); refine zX E (zK (qd (qd (qb (zX E (zK (qv (q6 (l.length) (fun k => k ≤ l.length) (fun k => ⟨[(0, bdA l), (3, .row 3), (4, iv (k : Int))], [(3, .rowd 143 5 true (bdDs (l.take k)))]⟩) (by omega) ?_ (fun k hk hp => ?_)))))))))
 ·exact Sub.trans (qaU (t := 3) (l := 3) 143 5 true E E) (qB (zC E (zC E (zC E SubT.nil))) (SubO.cons (qR E (by rfl)) SubO.nil) E E (noL' (noL hL) _))
 have hl2 : (bdDs (l.take k)).length ≤ l.length := by rw [qaR, List.length_take]; omega
 refine qd (qd (qb (zX E (zX E (zA E (qu E qO E) (zA E (qj E E E E) (qc ?_))))))); refine qa (qq E (fun c0 => ?_) (fun c0 => ?_))
 ·try simp only[↓cqA,cqB]at c0
  obtain ⟨u, hu⟩ := qH (l := l) (k := k) (by omega)
  have hum := List.mem_of_getElem? hu
  refine qr (qa (qd (qv (qb (zX E (zX E (zX E ?_))))))); refine zA E (qp E qO E E (by omega) (qbe hu)) (zA E (qC E qaT E E) (qE (avs := [_]) true E E E zD qcF E E (CopyBind_ok d u (hd u hum) (hw u hum)) E E (qy E E zD (qam 17 E qO qby E E zD zD zD E E E) E (qc1 E E zD (qa5 18 qdi E E E E E E E E (noL hL _) (by omega) E) E ?_))))
  refine zX E (qc (qP (qa (qb (zX E (zA E (qJ E E E (by omega)) (zX E ?_))))))); refine zK ?_; refine ⟨?_, ?_, ?_⟩
  ·omega
  ·omega
  exact Sub.trans (qaC 18 3 (noL hL _) (noL hL _)) (qB (zC E (zC E (zC E SubT.nil))) (SubO.cons (qR E (by rw [qac hu, bdDs, bdDs, List.map_append]; rfl)) SubO.nil) E E (noL' (noL hL) _))
 try simp only[↓cqA,cqB]at c0
 refine qQ (qn (qn (qX ?_))); refine qa (qd (qb (zX E (zX E (zK (qo ?_))))))
 change retQ _ _ _ _ _ _ _
 refine retO (O' := [(3, _)]) (.inl E) (qh E qi) (SubO.cons E SubO.nil) ?_ ?_ (noL' (noL hL) _) ?_
 ·rfl
 ·rfl
 exact ⟨rfl, by rw [List.take_of_length_le (by omega)]⟩
def atB (s : ByteArray) : List Bd → Int
 | [] => -1
 | b :: l => if b.name = s then 0 else if atB s l < 0 then -1 else atB s l + 1
theorem atB_some (s : ByteArray) : ∀ (l : List Bd) (m : Nat) (x : Bd), l[m]? = some x → x.name = s → (∀ (j : Nat) (y : Bd), j < m → l[j]? = some y → y.name ≠ s) → atB s l = m
  | [], m, x, h, _, _ => by simp at h
  | k :: l, 0, x, h, hx, _ => by
    simp only [List.getElem?_cons_zero, Option.some.injEq] at h; subst h
    rw [atB, if_pos hx]; rfl
  | k :: l, m + 1, x, h, hx, hj => by
    have ih := atB_some s l m x (by simpa using h) hx (fun j y hjm hy => hj (j + 1) y (by omega) (by simpa using hy))
    rw [atB, if_neg (hj 0 k (by omega) (by simp)), ih, if_neg (by omega)]; push_cast; rfl
theorem atB_none (s : ByteArray) : ∀ (l : List Bd), (∀ (j : Nat) (y : Bd), l[j]? = some y → y.name ≠ s) → atB s l = -1
  | [], _ => rfl
  | k :: l, h => by
    have ih := atB_none s l (fun j y hy => h (j + 1) y (by simpa using hy))
    rw [atB, if_neg (h 0 k (by simp)), ih, if_pos (by omega)]
theorem atB_cases (s : ByteArray) : ∀ l : List Bd, (hasB l s = false ∧ atB s l = -1) ∨ hasB l s = true ∧ ∃ (i : Nat) (x : Bd), atB s l = i ∧ l[i]? = some x ∧ x.name = s ∧ lookB l s = some x.t
  | [] => .inl ⟨rfl, rfl⟩
  | k :: l => by
    by_cases h : k.name = s
    · exact .inr ⟨by simp [hasB, h], 0, k, by rw [atB, if_pos h]; rfl, rfl, h, by simp [lookB, List.find?_cons, h]⟩
    · rcases atB_cases s l with ⟨h1, h2⟩ | ⟨h1, i, x, h2, h3, h4, h5⟩
      · exact .inl ⟨by simp only [hasB, List.any_cons, h, decide_false, Bool.false_or]; exact h1, by rw [atB, if_neg h, h2]; rfl⟩
      · refine .inr ⟨by simp only [hasB, List.any_cons, h, decide_false, Bool.false_or]; exact h1, i + 1, x, by rw [atB, if_neg h, h2, if_neg (by omega)]; push_cast; rfl, by simpa using h3, h4, ?_⟩
        simp only [lookB, List.find?_cons, h, decide_false]
        exact h5
theorem atB_has (s : ByteArray) (l : List Bd) : (0 ≤ atB s l) ↔ hasB l s = true := by
 rcases atB_cases s l with ⟨h1, h2⟩ | ⟨h1, i, x, h2, _⟩
 ·rw [h1, h2]; simp
 ·rw [h1, h2]; simp
theorem At1_ok' (l : List Bd) (s : ByteArray) (hl : l.length ≤ 1000000000) : PF 103 [bdA l, sv s] (iv (atB s l)) := by
 have hlen := qaR l
 refine qF Tryz.func103 E Tryz.ntmps103 zL fun c hL hQ hDD => (qd (qb (zX E (zK (qd (qd ?_)))))); refine qb (zX E (qc (qa (qv (q6 (l.length) (fun k => k ≤ l.length ∧ ∀ (j : Nat) (y : Bd), j < k → l[j]? = some y → y.name ≠ s) (fun k => ⟨[(0, bdA l), (1, sv s), (5, iv (k : Int))], []⟩) (⟨by omega, fun j y hj => absurd hj (by omega)⟩) ?_ (fun k hk hp => ?_))))))
 ·exact zR hL (zC E (zC E (zC E SubT.nil))) SubO.nil
 refine qd (qd (qb (zX E (zX E (zA E (qu E qO E) (zA E (qj E E E E) (qc ?_))))))); refine qa (qq E (fun c0 => ?_) (fun c0 => ?_))
 ·try simp only[↓cqA,cqB]at c0
  obtain ⟨u, hu⟩ := qH (l := l) (k := k) (by omega)
  refine qr (qa (qd (qv (qd (qb (zX E (zX E ?_))))))); refine zA E (qp E qO E E (by omega) (qbe hu)) (zA E (qA E qaG E) (zA E (qN E qaf E) (zX E (zA E (qbV E E E E) (zK (qq E (fun c1 => ?_) (fun c1 => ?_)))))))
  ·try simp only[↓cqA,cqB]at c1
   refine qd (qb (zX E (zX E (zK (qo (qS (qm (qm (qS (qm (zI hL (qh E qi) ?_ ?_)))))))))))
   ·rfl
   refine ⟨qa2 ?_, rfl⟩
   exact (atB_some s l k u hu c1 hp.2).symm
  try simp only[↓cqA,cqB]at c1
  refine qr (qP (qa (qb (zX E (zA E (qJ E E E (by omega)) (zX E (qc ?_))))))); refine qa ?_; refine ⟨?_, ?_, ?_⟩
  ·omega
  ·refine ⟨by omega, fun j y hj hy => ?_⟩
   by_cases hjk : j < k
   ·exact hp.2 j y hjk hy
   ·rw [show j = k by omega, hu] at hy; cases hy; exact c1
  exact zR hL (zC E (zC E (zC E SubT.nil))) SubO.nil
 try simp only[↓cqA,cqB]at c0
 refine qQ (qn (qn (qX ?_))); refine qa (qd (qb (zX E (zK (qo (zI hL (qh E qi) ?_ ?_))))))
 ·rfl
 refine ⟨qa2 ?_, rfl⟩
 exact (atB_none s l fun j y hy => hp.2 j y (by have := (List.getElem?_eq_some_iff.1 hy).1; omega) hy).symm
theorem wgtL_mem {α : Type} (f : α → Int) (m : Int) (hm : m < 1048576) : ∀ (n : Int) (l : List α), (∀ t, t ∈ l → 0 ≤ f t) → 0 ≤ n → wgtL f n l ≤ m → n ≤ m ∧ ∀ u ∈ l, f u ≤ m
  | n, [], _, _, h => ⟨by simpa [wgtL] using h, fun u hu => by cases hu⟩
  | n, a :: l, hf, hn, h => by
    have h1 := qbr f n (a :: l) hf
    simp only [wgtL] at h
    rw [if_pos (by omega)] at h
    have h0 := hf a (by simp)
    obtain ⟨h2, h3⟩ := wgtL_mem f m hm (n + f a) l (fun t ht => hf t (by simp [ht])) (by omega) h
    refine ⟨by omega, fun u hu => ?_⟩
    rcases List.mem_cons.1 hu with rfl | hu
    · omega
    · exact h3 u hu
theorem wgt_dle : ∀ (d : Nat) (t : Tm), wgt d t ≤ 1048575 → dle d t
  | 0, t, h => by
    have h2 : (1048576 : Int) ≤ 1048575 := h
    omega
  | d + 1, t, h => fun u hu => by
    simp only [wgt] at h
    have := (wgtL_mem (wgt d) 1048575 (by omega) _ t.args (fun u _ => wgt_ge d u) (by omega) h).2 u hu
    exact wgt_dle d u this
theorem arr_split {α β : Type} {g : α → β} {es : List α} {A : List (Option β)} (h : ∀ (q : Nat) (x : α), es[q]? = some x → A[q]? = some (some (g x))) : A = (es.map g).map some ++ A.drop es.length := by
 apply List.ext_getElem?
 intro q
 by_cases hq : q < es.length
 ·rw [List.getElem?_append_left (by simpa using hq)]
  simp only [List.getElem?_map]
  rw [h q es[q] (List.getElem?_eq_getElem hq), List.getElem?_eq_getElem hq]
  rfl
 ·rw [List.getElem?_append_right (by simp; omega), List.getElem?_drop]
  simp only [List.length_map]
  congr 1; omega
theorem arr_start {α β : Type} (g : α → β) (es : List α) (junk : List (Option β)) : ∀ (q : Nat) (x : α), es[q]? = some x → ((es.map g).map some ++ junk)[q]? = some (some (g x)) := fun q x h => by
 have hq := (List.getElem?_eq_some_iff.1 h).1
 rw [List.getElem?_append_left (by simpa using hq)]
 simp [h]
end Go.Proofs.YtpgceiijoedppaaGreat
