/- Part 15 of the proof: Nd, Me. -/
import Derived.Test.YtpgceiijoedppaaGreatB14
set_option linter.unusedVariables false
set_option linter.unusedSimpArgs false
set_option maxRecDepth 8000
namespace Go.Proofs.YtpgceiijoedppaaGreat
open Go
def cmpZ {α : Type} (f : α → α → Int) : List α → List α → Int
 | a :: x, b :: y => if f a b = 0 then cmpZ f x y else f a b
 | _, _ => 0
def or2 (x y : Int) : Int := if x = 0 then y else x
theorem cmpG_Z {α : Type} (f : α → α → Int) : ∀ x y : List α, cmpG f x y = or2 (cmpZ f x y) (cmpI x.length y.length)
  | [], [] => rfl
  | [], _ :: _ => by simp [cmpG, cmpZ, or2, cmpI]
  | _ :: _, [] => by simp [cmpG, cmpZ, or2, cmpI]; omega
  | a :: x, b :: y => by
    have ih := cmpG_Z f x y
    have e : cmpI ((a :: x).length : Int) ((b :: y).length : Int) = cmpI x.length y.length := by
      simp only [cmpI, List.length_cons]
      push_cast
      split <;> split <;> (try split) <;> (try split) <;> omega
    rw [cmpG, cmpZ, e]
    by_cases h : f a b = 0
    · rw [if_pos h, if_pos h]; exact ih
    · rw [if_neg h, if_neg h, or2, if_neg h]
theorem cmpZ_zero {α : Type} {f : α → α → Int} : ∀ {x y : List α}, (∀ (j : Nat) (a b : α), x[j]? = some a → y[j]? = some b → f a b = 0) → cmpZ f x y = 0
  | [], _, _ => by simp [cmpZ]
  | _ :: _, [], _ => by simp [cmpZ]
  | a :: x, b :: y, h => by
    rw [cmpZ, if_pos (h 0 a b rfl rfl)]
    exact cmpZ_zero fun j u v hu hv => h (j + 1) u v (by simpa using hu) (by simpa using hv)
theorem cmpZ_at {α : Type} {f : α → α → Int} : ∀ {x y : List α} {k : Nat} {a b : α}, (∀ (j : Nat) (a b : α), j < k → x[j]? = some a → y[j]? = some b → f a b = 0) → x[k]? = some a → y[k]? = some b → f a b ≠ 0 → cmpZ f x y = f a b
  | [], _, _, _, _, _, ha, _, _ => by simp at ha
  | _ :: _, [], _, _, _, _, _, hb, _ => by simp at hb
  | u :: x, v :: y, 0, a, b, h, ha, hb, hn => by
    simp only [List.getElem?_cons_zero, Option.some.injEq] at ha hb
    subst ha; subst hb
    rw [cmpZ, if_neg hn]
  | u :: x, v :: y, k + 1, a, b, h, ha, hb, hn => by
    rw [cmpZ, if_pos (h 0 u v (by omega) E E)]
    exact cmpZ_at (k := k) (fun j p q hj hp hq => h (j + 1) p q (by omega) (by simpa using hp) (by simpa using hq)) (by simpa using ha) (by simpa using hb) hn
theorem cmp_done {α : Type} {f : α → α → Int} {x y : List α} {k : Nat} {n : Int} (hp : (n = 0 ∧ ∀ (j : Nat) (a b : α), j < k → x[j]? = some a → y[j]? = some b → f a b = 0) ∨ (n ≠ 0 ∧ n = cmpZ f x y)) (hx : x.length ≤ k ∨ y.length ≤ k ∨ n ≠ 0) : n = cmpZ f x y := by
 rcases hp with ⟨h0, h⟩ | ⟨_, h⟩
 ·rw [h0]
  refine (cmpZ_zero fun j a b ha hb => ?_).symm
  have h1 := (List.getElem?_eq_some_iff.1 ha).1
  have h2 := (List.getElem?_eq_some_iff.1 hb).1
  exact h j a b (by rcases hx with h5 | h5 | h5 <;> first | exact absurd h0 h5 | omega) ha hb
 ·exact h
theorem cmp_step {α : Type} {f : α → α → Int} {x y : List α} {k : Nat} {n : Int} {a b : α} (hp : (n = 0 ∧ ∀ (j : Nat) (a b : α), j < k → x[j]? = some a → y[j]? = some b → f a b = 0) ∨ (n ≠ 0 ∧ n = cmpZ f x y)) (h0 : n = 0) (ha : x[k]? = some a) (hb : y[k]? = some b) : (f a b = 0 ∧ ∀ (j : Nat) (a b : α), j < k + 1 → x[j]? = some a → y[j]? = some b → f a b = 0) ∨ (f a b ≠ 0 ∧ f a b = cmpZ f x y) := by
 have h : ∀ (j : Nat) (a b : α), j < k → x[j]? = some a → y[j]? = some b → f a b = 0 := by
  rcases hp with ⟨_, h⟩ | ⟨h, _⟩
  ·exact h
  ·exact absurd h0 h
 by_cases hz : f a b = 0
 ·refine .inl ⟨hz, fun j u v hj hu hv => ?_⟩
  by_cases hjk : j < k
  ·exact h j u v hjk hu hv
  ·rw [show j = k by omega] at hu hv
   rw [ha] at hu; rw [hb] at hv
   cases hu; cases hv; exact hz
 ·exact .inr ⟨hz, (cmpZ_at h ha hb hz).symm⟩
theorem or_done {α : Type} {f : α → α → Int} {x y : List α} {k : Nat} {n t : Int} (hp : (t = 0 ∧ ((n = 0 ∧ ∀ (j : Nat) (a b : α), j < k → x[j]? = some a → y[j]? = some b → f a b = 0) ∨ (n ≠ 0 ∧ n = cmpZ f x y))) ∨ (t ≠ 0 ∧ n = t)) (hx : x.length ≤ k ∨ y.length ≤ k ∨ n ≠ 0) : n = or2 t (cmpZ f x y) := by
 rcases hp with ⟨h1, h2⟩ | ⟨h1, h2⟩
 ·rw [or2, if_pos h1]; exact cmp_done h2 hx
 ·rw [or2, if_neg h1]; exact h2
def three (a b : Mt) : Int := or2 (or2 (cmpG cmpI a.u b.u) (cmpI a.fr b.fr)) (cmpI a.to b.to)
theorem or2_zero (x : Int) : or2 x 0 = x := by
 rw [or2]; split
 ·rename_i h; exact h.symm
 ·rfl
theorem or2_assoc (x y z : Int) : or2 (or2 x y) z = or2 x (or2 y z) := by
 simp only [or2]; split
 ·rfl
 ·rename_i h; first | rw [if_neg h] | rfl
theorem ordM_or2 (a b : Mt) : ordM a b = or2 (or2 (three a b) (cmpZ onePg a.b b.b)) (cmpI a.b.length b.b.length) := by
 have e : ∀ x l, orL (x :: l) = or2 x (orL l) := fun _ _ => rfl
 rw [ordM, e, e, e, e, three, cmpG_Z onePg, orL, or2_zero, or2_assoc, or2_assoc, or2_assoc]
theorem one_lt {u v : Bd} (h : ltS u.name v.name = true) : onePg u v = -1 := by
 have e : cmpS u.name v.name = -1 := by rw [cmpS_eq, h]; rfl
 rw [onePg, orL, e, if_neg (by decide)]
theorem one_gt {u v : Bd} (h : ltS u.name v.name = false) (hn : ¬ u.name = v.name) : onePg u v = 1 := by
 have e : cmpS u.name v.name = 1 := by rw [cmpS_eq, h, if_neg (by decide), if_neg hn]
 rw [onePg, orL, e, if_neg (by decide)]
theorem one_eq {u v : Bd} (h : ltS u.name v.name = false) (hn : u.name = v.name) : onePg u v = ordT 5 u.t v.t := by
 have e : cmpS u.name v.name = 0 := by rw [cmpS_eq, h, if_neg (by decide), if_pos hn]
 rw [onePg, orL, e, if_pos rfl, orL, orL]
 exact or2_zero _
theorem r13sign_ok (x y : Int) : PF 162 [iv x, iv y] (iv (cmpI x y)) := by
 refine qF Tryz.func162 E Tryz.ntmps162 zL fun c hL hQ hDD => (qd (qb (zX E (zK (qd (qv ?_)))))); refine qd (qb (zX E (zX E (zA E (qj E E E E) (zX E (zK (qq E (fun c0 => ?_) (fun c0 => ?_))))))))
 ·try simp only[↓cqA,cqB]at c0
  refine qd (qb (zX E (zK (qo (qS (qm (zI hL (qh E qi) ?_ ?_)))))))
  ·rfl
  refine ⟨qa2 ?_, rfl⟩
  simp only [cmpI]; split <;> (try split) <;> omega
 try simp only[↓cqA,cqB]at c0
 refine qd (qb (zX E (zX E (zA E (qj E E E E) (zX E (zK ?_)))))); refine qq E (fun c1 => ?_) (fun c1 => ?_)
 ·try simp only[↓cqA,cqB]at c1
  refine qd (qb (zX E (zK (qo (qS (qm (zI hL (qh E qi) ?_ ?_)))))))
  ·rfl
  refine ⟨qa2 ?_, rfl⟩
  simp only [cmpI]; split <;> (try split) <;> omega
 try simp only[↓cqA,cqB]at c1
 refine qr (qP (qa (qd (qb (zX E (zK ?_)))))); refine qo (zI hL (qh E qi) ?_ ?_)
 ·rfl
 refine ⟨qa2 ?_, rfl⟩
 simp only [cmpI]; split <;> (try split) <;> omega
theorem rOrder13_ok (a b : Mt) (hd : ∀ x ∈ a.b, dle 5 x.t) (ha : a.wf) (hb : b.wf) : PF 106 [mtA a, mtA b] (iv (ordM a b)) := by
 obtain ⟨⟨la, wa⟩, _, lua, _⟩ := id ha
 obtain ⟨⟨lb, wb⟩, _, lub, _⟩ := id hb
 simp only [qba] at la lb lua lub
 have l1 := qbm a.u
 have l2 := qbm b.u
 have l3 := qaR a.b
 have l4 := qaR b.b
 refine qF Tryz.func106 E Tryz.ntmps106 zL fun c hL hQ hDD => (qd (qb (qy E E zD (qaa 2 E E E) E (qy E E zD (qaa 3 E E E) E (zX E (zK (qd (qb (zX E (zK (qcN ⟨[(2, .ptr 2 0), (3, .ptr 3 0), (5, iv (cmpZ cmpI a.u b.u))], [(2, .box (lift false (mtD a))), (3, .box (lift false (mtD b)))]⟩ ?_ ?_)))))))))))
 ·refine qd (qb (zX E (zK (qv (qdq (α := Int) (a.u.length) (fun k n => k ≤ a.u.length ∧ k ≤ b.u.length ∧ ((n = 0 ∧ ∀ (j : Nat) (x y : Int), j < k → a.u[j]? = some x → b.u[j]? = some y → cmpI x y = 0) ∨ (n ≠ 0 ∧ n = cmpZ cmpI a.u b.u))) (fun k n => ⟨[(2, .ptr 2 0), (3, .ptr 3 0), (5, iv n), (6, iv (k : Int))], [(2, .box (lift false (mtD a))), (3, .box (lift false (mtD b)))]⟩) (0) (⟨by omega, by omega, .inl ⟨rfl, fun j x y hj => absurd hj (by omega)⟩⟩) ?_ (fun k n hk hp => ?_))))))
  ·exact zR hL (zC E (zC E (zC E (zC E SubT.nil)))) (SubO.cons (qR E (by rfl)) (SubO.cons (qR E (by rfl)) SubO.nil))
  refine qd (qd (qb (zX E (zA E (qe E qaY E) (zA E (ql E qbM E E E E E) (zA E (qu E qaL E) (zA E (qj E E E E) ?_))))))); refine zX E (qt 13 E (fun g13 => ?_) (fun g13 => ?_))
  ·try simp only[↓cqA,cqB]at g13
   refine zZ E (qk (.inl E) E) (zZ E (qe E qaY E) (zZ E (ql E qbM E E E E E) (zZ E (qu E qaL E) (zZ E (qj E E E E) (zA E (qg E E E) (zX E (qt 20 E (fun g20 => ?_) (fun g20 => ?_))))))))
   ·try simp only[↓cqA,cqB]at g20
    obtain ⟨u, hu⟩ := qH (l := a.u) (k := k) (by omega)
    obtain ⟨v, hv⟩ := qH (l := b.u) (k := k) (by omega)
    refine zZ E (qk (.inl E) E) (zZ E (qj E E E E) (zA E (qg E E E) (zK (qq E (fun c0 => ?_) (fun c0 => ?_)))))
    ·try simp only[↓cqA,cqB]at c0
     refine qr (qa (qd (qv (qZ 10 mixed E E E E (qf E zD (.run E (qe E qaY E)) (qf E zD (.run E (ql E qbM E E E E E)) (qf E zD (.run E (qk (.inl E) E)) ?_))))))); refine qf E zD (.run E (qp E qaL E E (by omega) (inDs_get hu))) (qf E zD (.run E (qN E qU E)) (qf E zD (.run E (qe E qaY E)) (qf E zD (.run E (ql E qbM E E E E E)) (qf E zD (.run E (qk (.inl E) E)) (qf E zD (.run E (qp E qaL E E (by omega) (inDs_get hv))) (qf E zD (.run E (qN E qU E)) ?_))))))
     refine qak ⟨rfl, rfl, ?_⟩; refine qE (avs := [_, _]) true E E E zD qbT E E (r13sign_ok _ _) E E (zX E (qc (qP (qa (qb (zX E (zA E (qJ E E E (by omega)) ?_))))))); refine zX E (zK ?_); refine ⟨?_, cmpI u v, ?_, ?_⟩
     ·omega
     ·exact ⟨by omega, by omega, cmp_step hp.2.2 c0 hu hv⟩
     exact zR hL (zC E (zC E (zC E (zC E SubT.nil)))) (SubO.cons (qR E (by rfl)) (SubO.cons (qR E (by rfl)) SubO.nil))
    try simp only[↓cqA,cqB]at c0
    refine qQ (qn (qn (qX ?_)))
    exact qai (qB (zC E (zC E (SubT.cons (qan E (by exact qL (cmp_done hp.2.2 (by omega)))) SubT.nil))) (SubO.cons (qR E (by rfl)) (SubO.cons (qR E (by rfl)) SubO.nil)) E E (noL' (noL hL) _))
   try simp only[↓cqA,cqB]at g20
   refine zY E (zY E (zA E (qg E E E) (zK (qab E (qQ (qn (qn (qX ?_))))))))
   exact qai (qB (zC E (zC E (SubT.cons (qan E (by exact qL (cmp_done hp.2.2 (by omega)))) SubT.nil))) (SubO.cons (qR E (by rfl)) (SubO.cons (qR E (by rfl)) SubO.nil)) E E (noL' (noL hL) _))
  try simp only[↓cqA,cqB]at g13
  refine zY E (zY E (zY E (zY E (zY E (zA E (qg E E E) ?_)))))
  refine zX E (zY E (zY E (zA E (qg E E E) (zK (qab E (qQ ?_)))))); refine qn (qn (qX ?_))
  exact qai (qB (zC E (zC E (SubT.cons (qan E (by exact qL (cmp_done hp.2.2 (by omega)))) SubT.nil))) (SubO.cons (qR E (by rfl)) (SubO.cons (qR E (by rfl)) SubO.nil)) E E (noL' (noL hL) _))
 refine qcN ⟨[(2, .ptr 2 0), (3, .ptr 3 0), (5, iv (cmpG cmpI a.u b.u))], [(2, .box (lift false (mtD a))), (3, .box (lift false (mtD b)))]⟩ ?_ ?_
 ·refine qd (qb (zX E (zA E (qj E E E E) (zK (qq E (fun c1 => ?_) (fun c1 => ?_))))))
  ·try simp only[↓cqA,cqB]at c1
   refine qb (zA E (qe E qaY E) (zA E (ql E qbM E E E E E) (zA E (qu E qaL E) (zA E (qe E qaY E) (zA E (ql E qbM E E E E E) (zA E (qu E qaL E) (qE (avs := [_, _]) true E E E zD qbT E E (r13sign_ok _ _) E E (zX E (qc ?_)))))))))
   exact qai (qB (zC E (zC E (SubT.cons (qan E (by first | exact qL (by rw [l1, l2, cmpG_Z, or2, if_pos c1]) | exact qL (by rw [cmpG_Z, or2, if_neg c1]))) SubT.nil))) (SubO.cons (qR rfl (by rfl)) (SubO.cons (qR E (by rfl)) SubO.nil)) E E (noL' (noL hL) _))
  try simp only[↓cqA,cqB]at c1
  refine qr ?_
  exact qai (qB (zC E (zC E (SubT.cons (qan E (by first | exact qL (by rw [l1, l2, cmpG_Z, or2, if_pos c1]) | exact qL (by rw [cmpG_Z, or2, if_neg c1]))) SubT.nil))) (SubO.cons (qR rfl (by rfl)) (SubO.cons (qR E (by rfl)) SubO.nil)) E E (noL' (noL hL) _))
 refine qcN ⟨[(2, .ptr 2 0), (3, .ptr 3 0), (5, iv (or2 (cmpG cmpI a.u b.u) (cmpI a.fr b.fr)))], [(2, .box (lift false (mtD a))), (3, .box (lift false (mtD b)))]⟩ ?_ ?_
 ·refine qd (qb (zX E (zA E (qj E E E E) (zK (qq E (fun c2 => ?_) (fun c2 => ?_))))))
  ·try simp only[↓cqA,cqB]at c2
   refine qb (zA E (qe E q9 E) (zA E (qe E qah E) (zA E (ql E qU E E E E E) (zA E (qe E q9 E) (zA E (qe E qah E) (zA E (ql E qU E E E E E) (qE (avs := [_, _]) true E E E zD qbT E E (r13sign_ok _ _) E E (zX E (qc ?_)))))))))
   exact qai (qB (zC E (zC E (SubT.cons (qan E (by first | exact qL (by rw [or2, if_pos c2]) | exact qL (by rw [or2, if_neg c2]))) SubT.nil))) (SubO.cons (qR rfl (by rfl)) (SubO.cons (qR E (by rfl)) SubO.nil)) E E (noL' (noL hL) _))
  try simp only[↓cqA,cqB]at c2
  refine qr ?_
  exact qai (qB (zC E (zC E (SubT.cons (qan E (by first | exact qL (by rw [or2, if_pos c2]) | exact qL (by rw [or2, if_neg c2]))) SubT.nil))) (SubO.cons (qR rfl (by rfl)) (SubO.cons (qR E (by rfl)) SubO.nil)) E E (noL' (noL hL) _))
 refine qcN ⟨[(2, .ptr 2 0), (3, .ptr 3 0), (5, iv (three a b))], [(2, .box (lift false (mtD a))), (3, .box (lift false (mtD b)))]⟩ ?_ ?_
 ·refine qd (qb (zX E (zA E (qj E E E E) (zK (qq E (fun c3 => ?_) (fun c3 => ?_))))))
  ·try simp only[↓cqA,cqB]at c3
   refine qb (zA E (qe E q9 E) (zA E (qe E qat E) (zA E (ql E qU E E E E E) (zA E (qe E q9 E) (zA E (qe E qat E) (zA E (ql E qU E E E E E) (qE (avs := [_, _]) true E E E zD qbT E E (r13sign_ok _ _) E E (zX E (qc ?_)))))))))
   exact qai (qB (zC E (zC E (SubT.cons (qan E (by first | exact qL (if_pos c3).symm | exact qL (if_neg c3).symm)) SubT.nil))) (SubO.cons (qR E (by rfl)) (SubO.cons (qR E (by rfl)) SubO.nil)) E E (noL' (noL hL) _))
  try simp only[↓cqA,cqB]at c3
  refine qr ?_
  exact qai (qB (zC E (zC E (SubT.cons (qan E (by first | exact qL (if_pos c3).symm | exact qL (if_neg c3).symm)) SubT.nil))) (SubO.cons (qR E (by rfl)) (SubO.cons (qR E (by rfl)) SubO.nil)) E E (noL' (noL hL) _))
 refine qcN ⟨[(2, .ptr 2 0), (3, .ptr 3 0), (5, iv (or2 (three a b) (cmpZ onePg a.b b.b)))], [(2, .box (lift false (mtD a))), (3, .box (lift false (mtD b)))]⟩ ?_ ?_
 ·refine qd (qb (zX E (zK (qv (qdq (α := Int) (a.b.length) (fun k n => k ≤ a.b.length ∧ k ≤ b.b.length ∧ ((three a b = 0 ∧ ((n = 0 ∧ ∀ (j : Nat) (x y : Bd), j < k → a.b[j]? = some x → b.b[j]? = some y → onePg x y = 0) ∨ (n ≠ 0 ∧ n = cmpZ onePg a.b b.b))) ∨ (three a b ≠ 0 ∧ n = three a b))) (fun k n => ⟨[(2, .ptr 2 0), (3, .ptr 3 0), (5, iv n), (7, iv (k : Int))], [(2, .box (lift false (mtD a))), (3, .box (lift false (mtD b)))]⟩) (three a b) (⟨by omega, by omega, by by_cases h : three a b = 0 <;> simp [h]⟩) ?_ (fun k n hk hp => ?_))))))
  ·exact zR hL (zC E (zC E (zC E (zC E SubT.nil)))) (SubO.cons (qR E (by rfl)) (SubO.cons (qR E (by rfl)) SubO.nil))
  refine qd (qd (qb (zX E (zA E (qe E qaA E) (zA E (ql E qap E E E E E) (zA E (qu E qO E) (zA E (qj E E E E) ?_))))))); refine zX E (qt 69 E (fun g69 => ?_) (fun g69 => ?_))
  ·try simp only[↓cqA,cqB]at g69
   refine zZ E (qk (.inl E) E) (zZ E (qe E qaA E) (zZ E (ql E qap E E E E E) (zZ E (qu E qO E) (zZ E (qj E E E E) (zA E (qg E E E) (zX E (qt 76 E (fun g76 => ?_) (fun g76 => ?_))))))))
   ·try simp only[↓cqA,cqB]at g76
    obtain ⟨u, hu⟩ := qH (l := a.b) (k := k) (by omega)
    obtain ⟨v, hv⟩ := qH (l := b.b) (k := k) (by omega)
    have hum := List.mem_of_getElem? hu
    have hvm := List.mem_of_getElem? hv
    have huw := (wa u hum).2
    have hvw := (wb v hvm).2
    refine zZ E (qk (.inl E) E) (zZ E (qj E E E E) (zA E (qg E E E) (zK (qq E (fun c4 => ?_) (fun c4 => ?_)))))
    ·try simp only[↓cqA,cqB]at c4
     refine qr (qa (qd (qv (qd (qd (qZ 12 mixed E E E E (qf E zD (.run E (qe E qaA E)) ?_))))))); refine qf E zD (.run E (ql E qap E E E E E)) (qf E zD (.run E (qk (.inl E) E)) (qf E zD (.run E (qp E qO E E (by omega) (qbe hu))) (qf E zD (.run E (qA E qaG E)) (qf E zD (.run E (qN E qaf E)) (qf E zD (.run E (qe E qaA E)) (qf E zD (.run E (ql E qap E E E E E)) (qf E zD (.run E (qk (.inl E) E)) (qf E zD (.run E (qp E qO E E (by omega) (qbe hv))) ?_))))))))
     refine qf E zD (.run E (qA E qaG E)) (qf E zD (.run E (qN E qaf E)) (qak ⟨rfl, rfl, ?_⟩)); refine zA E (qbV E E E E) (zK (qq E (fun c5 => ?_) (fun c5 => ?_)))
     ·try simp only[↓cqA,cqB]at c5
      have hlt : ltS u.name v.name = true := c5
      refine qb (zX E (zK (qd (qd (qZ 12 mixed E E E E (qf E zD (.run E (qe E qaA E)) ?_)))))); refine qf E zD (.run E (ql E qap E E E E E)) (qf E zD (.run E (qk (.inl E) E)) (qf E zD (.run E (qp E qO E E (by omega) (qbe hu))) (qf E zD (.run E (qA E qaG E)) (qf E zD (.run E (qN E qaf E)) (qf E zD (.run E (qe E qaA E)) (qf E zD (.run E (ql E qap E E E E E)) (qf E zD (.run E (qk (.inl E) E)) (qf E zD (.run E (qp E qO E E (by omega) (qbe hv))) ?_))))))))
      refine qf E zD (.run E (qA E qaG E)) (qf E zD (.run E (qN E qaf E)) (qak ⟨rfl, rfl, ?_⟩)); refine zA E (qbV E E E E) (zK (qq E (fun c6 => ?_) (fun c6 => ?_)))
      ·try simp only[↓cqA,cqB]at c6
       have hne : ¬ u.name = v.name := by
        simp only [Bool.or_eq_false_iff] at c6
        intro h; have := c6.2; simp [h] at this
       have hnl : ltS u.name v.name = false := by
        simp only [Bool.or_eq_false_iff] at c6
        exact c6.1
       refine qb (zX E (zK (qd (qb (zX E (zA E (qj (r := .bool false) E E E E) ?_)))))); refine zK ?_
       refine qab E (qr (qP (qa (qb (zX E (zA E (qJ E E E (by omega)) (zX E ?_))))))); refine zK ?_; refine ⟨?_, onePg u v, ?_, ?_⟩
       ·omega
       ·have h3 : three a b = 0 ∧ ((n = 0 ∧ ∀ (j : Nat) (x y : Bd), j < k → a.b[j]? = some x → b.b[j]? = some y → onePg x y = 0) ∨ (n ≠ 0 ∧ n = cmpZ onePg a.b b.b)) := by
         rcases hp.2.2 with h | ⟨h1, h2⟩
         ·exact h
         ·exfalso; omega
        exact ⟨by omega, by omega, .inl ⟨h3.1, cmp_step h3.2 (by assumption) hu hv⟩⟩
       exact zR hL (zC E (zC E (SubT.cons (qan E (by first | exact qL (one_lt hlt).symm | exact qL (one_gt hlt hne).symm | exact qL (one_eq hlt (hor.resolve_left (by rw [hlt]; exact Bool.noConfusion))).symm | (exfalso; rw [hnl] at hlt; cases hlt) | (exfalso; omega))) (zC E SubT.nil)))) (SubO.cons (qR E (by rfl)) (SubO.cons (qR E (by rfl)) SubO.nil))
      try simp only[↓cqA,cqB]at c6
      have hor : ltS u.name v.name = true ∨ u.name = v.name := by
       have h := c6
       simp only [Bool.or_eq_true, str_beq_t] at h
       exact h
      refine qr (qa (qd (qb (zX E (zA E (qj (r := .bool false) E E E E) (zK ?_)))))); refine qab E (qr (qP (qa ?_)))
      refine qb (zX E (zA E (qJ E E E (by omega)) (zX E (zK ?_)))); refine ⟨?_, onePg u v, ?_, ?_⟩
      ·omega
      ·have h3 : three a b = 0 ∧ ((n = 0 ∧ ∀ (j : Nat) (x y : Bd), j < k → a.b[j]? = some x → b.b[j]? = some y → onePg x y = 0) ∨ (n ≠ 0 ∧ n = cmpZ onePg a.b b.b)) := by
        rcases hp.2.2 with h | ⟨h1, h2⟩
        ·exact h
        ·exfalso; omega
       exact ⟨by omega, by omega, .inl ⟨h3.1, cmp_step h3.2 (by assumption) hu hv⟩⟩
      exact zR hL (zC E (zC E (SubT.cons (qan E (by first | exact qL (one_lt hlt).symm | exact qL (one_gt hlt hne).symm | exact qL (one_eq hlt (hor.resolve_left (by rw [hlt]; exact Bool.noConfusion))).symm | (exfalso; rw [hnl] at hlt; cases hlt) | (exfalso; omega))) (zC E SubT.nil)))) (SubO.cons (qR E (by rfl)) (SubO.cons (qR E (by rfl)) SubO.nil))
     try simp only[↓cqA,cqB]at c5
     have hlt : ltS u.name v.name = false := c5
     refine qr (qa (qd (qd (qZ 12 mixed E E E E (qf E zD (.run E (qe E qaA E)) (qf E zD (.run E (ql E qap E E E E E)) (qf E zD (.run E (qk (.inl E) E)) ?_))))))); refine qf E zD (.run E (qp E qO E E (by omega) (qbe hu))) (qf E zD (.run E (qA E qaG E)) (qf E zD (.run E (qN E qaf E)) (qf E zD (.run E (qe E qaA E)) (qf E zD (.run E (ql E qap E E E E E)) (qf E zD (.run E (qk (.inl E) E)) (qf E zD (.run E (qp E qO E E (by omega) (qbe hv))) (qf E zD (.run E (qA E qaG E)) ?_)))))))
     refine qf E zD (.run E (qN E qaf E)) (qak ⟨rfl, rfl, ?_⟩); refine zA E (qbV E E E E) (zK (qq E (fun c6 => ?_) (fun c6 => ?_)))
     ·try simp only[↓cqA,cqB]at c6
      have hne : ¬ u.name = v.name := by
       simp only [Bool.or_eq_false_iff] at c6
       intro h; have := c6.2; simp [h] at this
      have hnl : ltS u.name v.name = false := by
       simp only [Bool.or_eq_false_iff] at c6
       exact c6.1
      refine qb (zX E (zK (qd (qb (zX E (zA E (qj (r := .bool false) E E E E) ?_)))))); refine zK ?_
      refine qab E (qr (qP (qa (qb (zX E (zA E (qJ E E E (by omega)) (zX E ?_))))))); refine zK ?_; refine ⟨?_, onePg u v, ?_, ?_⟩
      ·omega
      ·have h3 : three a b = 0 ∧ ((n = 0 ∧ ∀ (j : Nat) (x y : Bd), j < k → a.b[j]? = some x → b.b[j]? = some y → onePg x y = 0) ∨ (n ≠ 0 ∧ n = cmpZ onePg a.b b.b)) := by
        rcases hp.2.2 with h | ⟨h1, h2⟩
        ·exact h
        ·exfalso; omega
       exact ⟨by omega, by omega, .inl ⟨h3.1, cmp_step h3.2 (by assumption) hu hv⟩⟩
      exact zR hL (zC E (zC E (SubT.cons (qan E (by first | exact qL (one_lt hlt).symm | exact qL (one_gt hlt hne).symm | exact qL (one_eq hlt (hor.resolve_left (by rw [hlt]; exact Bool.noConfusion))).symm | (exfalso; rw [hnl] at hlt; cases hlt) | (exfalso; omega))) (zC E SubT.nil)))) (SubO.cons (qR E (by rfl)) (SubO.cons (qR E (by rfl)) SubO.nil))
     try simp only[↓cqA,cqB]at c6
     have hor : ltS u.name v.name = true ∨ u.name = v.name := by
      have h := c6
      simp only [Bool.or_eq_true, str_beq_t] at h
      exact h
     refine qr (qa (qd (qb (zX E (zA E (qj E E E E) (zK ?_)))))); refine qq E (fun c7 => ?_) (fun c7 => ?_)
     ·try simp only[↓cqA,cqB]at c7
      refine qZ 12 mixed E E E E (qf E zD (.run E (qe E qaA E)) (qf E zD (.run E (ql E qap E E E E E)) (qf E zD (.run E (qk (.inl E) E)) (qf E zD (.run E (qp E qO E E (by omega) (qbe hu))) (qf E zD (.run E (qA E qaZ E)) (qf E zD (.run E (qC E qw E E)) (qf E zD (.run E (qe E qaA E)) (qf E zD (.run E (ql E qap E E E E E)) (qf E zD (.run E (qk (.inl E) E)) (qf E zD (.run E (qp E qO E E (by omega) (qbe hv))) (qf E zD (.run E (qA E qaZ E)) (qf E zD (.run E (qC E qw E E)) ?_))))))))))))
      refine qak ⟨rfl, rfl, ?_⟩; refine qE (avs := [_, _]) true E E E zD qdf E E (Order_ok 5 u.t v.t (hd u hum) huw hvw) E E (zX E (qc (qP (qa (qb ?_)))))
      refine zX E (zA E (qJ E E E (by omega)) (zX E (zK ?_))); refine ⟨?_, onePg u v, ?_, ?_⟩
      ·omega
      ·have h3 : three a b = 0 ∧ ((n = 0 ∧ ∀ (j : Nat) (x y : Bd), j < k → a.b[j]? = some x → b.b[j]? = some y → onePg x y = 0) ∨ (n ≠ 0 ∧ n = cmpZ onePg a.b b.b)) := by
        rcases hp.2.2 with h | ⟨h1, h2⟩
        ·exact h
        ·exfalso; omega
       exact ⟨by omega, by omega, .inl ⟨h3.1, cmp_step h3.2 (by assumption) hu hv⟩⟩
      exact zR hL (zC E (zC E (SubT.cons (qan E (by first | exact qL (one_lt hlt).symm | exact qL (one_gt hlt hne).symm | exact qL (one_eq hlt (hor.resolve_left (by rw [hlt]; exact Bool.noConfusion))).symm | (exfalso; rw [hnl] at hlt; cases hlt) | (exfalso; omega))) (zC E SubT.nil)))) (SubO.cons (qR E (by rfl)) (SubO.cons (qR E (by rfl)) SubO.nil))
     try simp only[↓cqA,cqB]at c7
     refine qr (qP (qa (qb (zX E (zA E (qJ E E E (by omega)) (zX E (qc ?_))))))); refine qa ?_; refine ⟨?_, onePg u v, ?_, ?_⟩
     ·omega
     ·have h3 : three a b = 0 ∧ ((n = 0 ∧ ∀ (j : Nat) (x y : Bd), j < k → a.b[j]? = some x → b.b[j]? = some y → onePg x y = 0) ∨ (n ≠ 0 ∧ n = cmpZ onePg a.b b.b)) := by
       rcases hp.2.2 with h | ⟨h1, h2⟩
       ·exact h
       ·exfalso; omega
      exact ⟨by omega, by omega, .inl ⟨h3.1, cmp_step h3.2 (by assumption) hu hv⟩⟩
     exact zR hL (zC E (zC E (SubT.cons (qan E (by first | exact qL (one_lt hlt).symm | exact qL (one_gt hlt hne).symm | exact qL (one_eq hlt (hor.resolve_left (by rw [hlt]; exact Bool.noConfusion))).symm | (exfalso; rw [hnl] at hlt; cases hlt) | (exfalso; omega))) (zC E SubT.nil)))) (SubO.cons (qR E (by rfl)) (SubO.cons (qR E (by rfl)) SubO.nil))
    try simp only[↓cqA,cqB]at c4
    refine qQ (qn (qn (qX ?_)))
    exact qai (qB (zC E (zC E (SubT.cons (qan E (by exact qL (or_done hp.2.2 (by omega)))) SubT.nil))) (SubO.cons (qR E (by rfl)) (SubO.cons (qR E (by rfl)) SubO.nil)) E E (noL' (noL hL) _))
   try simp only[↓cqA,cqB]at g76
   refine zY E (zY E (zA E (qg E E E) (zK (qab E (qQ (qn (qn (qX ?_))))))))
   exact qai (qB (zC E (zC E (SubT.cons (qan E (by exact qL (or_done hp.2.2 (by omega)))) SubT.nil))) (SubO.cons (qR E (by rfl)) (SubO.cons (qR E (by rfl)) SubO.nil)) E E (noL' (noL hL) _))
  try simp only[↓cqA,cqB]at g69
  refine zY E (zY E (zY E (zY E (zY E (zA E (qg E E E) ?_)))))
  refine zX E (zY E (zY E (zA E (qg E E E) (zK (qab E (qQ ?_)))))); refine qn (qn (qX ?_))
  exact qai (qB (zC E (zC E (SubT.cons (qan E (by exact qL (or_done hp.2.2 (by omega)))) SubT.nil))) (SubO.cons (qR E (by rfl)) (SubO.cons (qR E (by rfl)) SubO.nil)) E E (noL' (noL hL) _))
 refine qd (qd (qb (zX E (zA E (qj E E E E) (zK (qq E (fun c8 => ?_) (fun c8 => ?_)))))))
 ·try simp only[↓cqA,cqB]at c8
  refine qb (zA E (qe E qaA E) (zA E (ql E qap E E E E E) (zA E (qu E qO E) (zA E (qe E qaA E) (zA E (ql E qap E E E E E) (zA E (qu E qO E) ?_))))))
  refine qE (avs := [_, _]) true E E E zD qbT E E (r13sign_ok _ _) E E (zX E (zK (qd (qb (zX E (zX E ?_)))))); refine zK (qo (zI hL (qh E qi) ?_ ?_))
  ·rfl
  refine ⟨qa2 ?_, rfl⟩
  rw [ordM_or2]
  first
   | (rw [l3, l4]; exact (if_pos c8).symm)
   | exact (if_neg c8).symm
 try simp only[↓cqA,cqB]at c8
 refine qr (qa (qd (qb (zX E (zX E (zK ?_)))))); refine qo (zI hL (qh E qi) ?_ ?_)
 ·rfl
 refine ⟨qa2 ?_, rfl⟩
 rw [ordM_or2]
 first
  | (rw [l3, l4]; exact (if_pos c8).symm)
  | exact (if_neg c8).symm
section
variable {α : Type}
theorem compN_snoc (f : α → α → Int) : ∀ (x : List α) (p a b : α), (p :: x).getLast? = some b → compN f p (x ++ [a]) = compN f p x ++ (if f a b = 0 then [] else [a])
  | [], p, a, b, h => by
    simp only [List.getLast?_singleton, Option.some.injEq] at h
    subst h
    simp only [List.nil_append, compN]
  | c :: x, p, a, b, h => by
    rw [List.getLast?_cons_cons] at h
    have ih := compN_snoc f x c a b h
    simp only [List.cons_append, compN, ih]
    split
    · rfl
    · rw [List.cons_append]
theorem compG_take (f : α → α → Int) {l : List α} {k : Nat} {a b : α} (ha : l[k + 1]? = some a) (hb : l[k]? = some b) : compG f (l.take (k + 2)) = compG f (l.take (k + 1)) ++ (if f a b = 0 then [] else [a]) := by
  cases l with
  | nil => simp at ha
  | cons p t =>
    rw [List.getElem?_cons_succ] at ha
    rw [List.take_succ_cons, List.take_succ_cons, qac ha, compG, compG, compN_snoc f (t.take k) p a b ?_, List.cons_append]
    rw [← List.take_succ_cons, List.getLast?_eq_getElem?, List.length_take, List.getElem?_take]
    have := (List.getElem?_eq_some_iff.1 hb).1
    rw [if_pos (by simp only [List.length_cons] at *; omega), show min (k + 1) (p :: t).length - 1 = k by simp only [List.length_cons] at *; omega]
    exact hb
theorem compG_one (f : α → α → Int) {l : List α} (h : l.length < 2) : compG f l = l := by
  cases l with
  | nil => rfl
  | cons a l => cases l with
    | nil => rfl
    | cons b l => simp only [List.length_cons] at h; omega
end
theorem SSG.nodup {α : Type} {f : α → α → Int} (hf : TP f) {l : List α} (h : SSG f l) : l.Nodup := h.imp fun {a b} h e => by
 subst e; rw [hf.self a] at h; omega
def qcP (kind rel : Int) (c l r : List Mt) : List Mt := l.flatMap fun a => r.filterMap (qb9 kind rel c a)
theorem flatM_ok {n k : Nat} {kind rel : Int} {c l r : List Mt} (hl : ∀ a ∈ l, MOk n a) (hr : ∀ b ∈ r, MOk k b) : ∀ m ∈ qcP kind rel c l r, MOk (n + k) m := fun m hm => by
 obtain ⟨a, ha, h⟩ := List.mem_flatMap.1 hm
 obtain ⟨b, hb, h⟩ := List.mem_filterMap.1 h
 exact joinM_ok (hl a ha) (hr b hb) h
end Go.Proofs.YtpgceiijoedppaaGreat
