/- Part 18 of the proof: Mi, Ni, Nj, Mg, Nk. -/
import Derived.Test.YtpgceiijoedppaaGreatB17
set_option linter.unusedVariables false
set_option linter.unusedSimpArgs false
namespace Go.Proofs.YtpgceiijoedppaaGreat
open Go
def qbK (policy : Int) (gone : List Int) (l : List Mt) : List Mt := if policy = 0 then l else match qc5 policy gone 0 l none with
 | none => []
 | some b => [b.2]
theorem chosen_all (gone : List Int) (l : List Mt) : qbK 0 gone l = l := rfl
theorem chosen_in {policy : Int} {gone : List Int} {l : List Mt} {x : Mt} (h : x ∈ qbK policy gone l) : x ∈ l := by
 unfold qbK at h
 split at h
 ·exact h
 ·split at h
  ·cases h
  ·rename_i b hb
   rw [List.mem_singleton] at h
   subst h
   have h1 := bestL_in policy gone l l.length (Nat.le_refl _) b (by rw [List.take_length]; exact hb)
   exact List.mem_of_getElem? h1.1
theorem chosen_len {policy : Int} {gone : List Int} {l : List Mt} (h : policy ≠ 0) : (qbK policy gone l).length ≤ 1 := by
 unfold qbK
 rw [if_neg h]
 split <;> simp
theorem chosen_recent {gone : List Int} {l : List Mt} : (0 < l.length → (qbK 1 gone l).length = 1) ∧ ∀ x ∈ qbK 1 gone l, ∀ m ∈ l, m.fr ≤ x.fr := by
 obtain ⟨h1, h2⟩ := bestL_recent gone l l.length (Nat.le_refl _)
 rw [List.take_length] at h1 h2
 unfold qbK
 rw [if_neg (by decide)]
 refine ⟨fun h => ?_, fun x hx m hm => ?_⟩
 ·obtain ⟨b, hb⟩ := h1 h
  rw [hb]; rfl
 ·split at hx
  ·cases hx
  ·rename_i b hb
   rw [List.mem_singleton] at hx
   subst hx
   obtain ⟨j, hj⟩ := List.getElem?_of_mem hm
   exact h2 b hb j m (List.getElem?_eq_some_iff.1 hj).1 hj
theorem chosen_first {gone : List Int} {l : List Mt} {x : Mt} (h : x ∈ qbK 2 gone l) : ∀ n ∈ x.u, ¬ n ∈ gone := by
 unfold qbK at h
 rw [if_neg (by decide)] at h
 split at h
 ·cases h
 ·rename_i b hb
  rw [List.mem_singleton] at h
  subst h
  have h1 := (bestL_in 2 gone l l.length (Nat.le_refl _) b (by rw [List.take_length]; exact hb)).2.2 E
  intro n hn hg
  simp only [freshB, Bool.not_eq_true'] at h1
  have h2 : (b.2.u.any fun n => gone.any fun g => decide (g = n)) = true := List.any_eq_true.2 ⟨n, hn, List.any_eq_true.2 ⟨n, hg, by simp⟩⟩
  rw [h1] at h2; cases h2
end Go.Proofs.YtpgceiijoedppaaGreat

set_option maxRecDepth 8000
namespace Go.Proofs.YtpgceiijoedppaaGreat
open Go
theorem orL_range : ∀ l : List Int, (∀ x ∈ l, -1 ≤ x ∧ x ≤ 1) → -1 ≤ orL l ∧ orL l ≤ 1
  | [], _ => by simp [orL]
  | a :: l, h => by
    rw [orL]; split
    · exact orL_range l fun x hx => h x (by simp [hx])
    · exact h a (by simp)
theorem cmpI_rng (a b : Int) : -1 ≤ cmpI a b ∧ cmpI a b ≤ 1 := by simp only [cmpI]; split <;> (try split) <;> omega
theorem cmpS_rng (a b : ByteArray) : -1 ≤ cmpS a b ∧ cmpS a b ≤ 1 := by rw [cmpS_eq]; split <;> (try split) <;> omega
theorem cmpL_rng {f : Tm → Tm → Int} (h : ∀ a b, -1 ≤ f a b ∧ f a b ≤ 1) : ∀ x y : List Tm, -1 ≤ cmpL f x y ∧ cmpL f x y ≤ 1
  | [], [] => by simp [cmpL]
  | [], _ :: _ => by simp [cmpL]
  | _ :: _, [] => by simp [cmpL]
  | a :: x, b :: y => by
    rw [cmpL]; split
    · exact cmpL_rng h x y
    · exact h a b
theorem cmpT_rng : ∀ (d : Nat) (a b : Tm), -1 ≤ cmpT d a b ∧ cmpT d a b ≤ 1
  | 0, a, b => by simp [cmpT]
  | d + 1, a, b => by
    rw [cmpT]
    split
    · exact cmpL_rng (cmpT_rng d) _ _
    · refine orL_range _ fun x hx => ?_
      simp only [List.mem_cons, List.not_mem_nil, or_false] at hx
      rcases hx with rfl | rfl | rfl | rfl
      · exact cmpI_rng _ _
      · exact cmpI_rng _ _
      · exact cmpI_rng _ _
      · exact cmpS_rng _ _
theorem cmpM_rng (a b : Mt) : -1 ≤ cmpM a b ∧ cmpM a b ≤ 1 := by
 refine orL_range _ fun x hx => ?_
 simp only [List.mem_cons, List.not_mem_nil, or_false] at hx
 rcases hx with rfl | rfl | rfl | rfl
 ·exact cmpG_range cmpI_rng _ _
 ·exact cmpI_rng _ _
 ·exact cmpI_rng _ _
 ·refine cmpG_range (fun u v => orL_range _ fun x hx => ?_) _ _
  simp only [List.mem_cons, List.not_mem_nil, or_false] at hx
  rcases hx with rfl | rfl
  ·exact cmpS_rng _ _
  ·exact cmpT_rng _ _ _
theorem MOk.mayB {n : Nat} {m : Mt} (h : MOk n m) : Go.Proofs.YtpgceiijoedppaaGreat.mayB m.b = true := (mayB_iff fun b hb => (h.gg.gb.el b hb).1).2 h.gg.gb
theorem IndexFunc_in_ok (B : Bool) (ts : List Int) (es : List (List D)) (hes : es = ts.map (fun x : Int => [D.imm (.int .i64 x)])) (hlen : ts.length ≤ 140737488351232) (g : FuncId) (caps : List AV) (hen : qW Tryz.prog g) (Os : Nat → List (Nat × Ob)) (p : Nat → Bool) (hO : Thread B caps Os)
  (hstep : ∀ k u, ts[k]? = some u → (∀ j, j < k → p j = false) → AC Tryz.prog g (iv u :: caps) (Os k) (fun r O => r = bv (p k) ∧ O = Os (k + 1))) :
  AC Tryz.prog 242 [.dat false 1 es, .fn g caps] (Os 0) (fun r O => ∃ m n i, m ≤ ts.length ∧ (∀ j, j < m → p j = false) ∧ ((m < ts.length ∧ p m = true ∧ i = (m : Int) ∧ n = m + 1) ∨ (m = ts.length ∧ i = -1 ∧ n = m)) ∧ r = iv i ∧ O = Os n) := by
 have hl : es.length = ts.length := by rw [hes, List.length_map]
 refine qF Tryz.func242 E Tryz.ntmps242 zL fun c hL hQ hDD => (qd (qb (zX E (zK (qd (qd ?_)))))); refine qb (zX E (zA E (qu E qaL E) (zX E (zK (qv (q6 (ts.length) (fun k => k ≤ ts.length ∧ ∀ j, j < k → p j = false) (fun k => ⟨[(0, .dat false 1 es), (1, .fn g caps), (7, iv es.length), (8, iv (k : Int))], Os k⟩) (⟨by omega, fun j hj => absurd hj (by omega)⟩) ?_ (fun k hk hp => ?_)))))))
 ·exact qB (zC E (zC E (zC E (zC E SubT.nil)))) (fun _ _ h => h) (by simp [allT, AV.allL, hO.all]) (hO.self _) (fun l hl => by rw [hO.dom]; exact (hL l).1 hl)
 refine qd (qb (zA E (qj E E E E) (zK (qd (qq E (fun c0 => ?_) (fun c0 => ?_))))))
 ·try simp only[↓cqA,cqB]at c0
  obtain ⟨u, hu⟩ := qH (l := ts) (k := k) (by omega)
  refine qr (qa (qd (qv (qd (qb (zX E (zX E ?_))))))); refine zK (qd (qb (zX E (zX E (zX E ?_)))))
  refine zA E (qp E qaL E E (by omega) (by rw [hes, List.getElem?_map]; exact congrArg (Option.map (fun x : Int => [D.imm (.int .i64 x)])) hu)) ?_; refine zA E (qN E qU E) ?_; refine qaj (avs := [_]) B E E E zD hen E E (hstep k u hu hp.2) (by rw [List.cons_append, List.nil_append]; simp only [AV.cvs, hO.cvs]; rfl) (hO.pass k) (by rintro r O' ⟨_, rfl⟩ l hl; left; rw [hO.dom] at hl ⊢; exact hl) (by rintro hB r O' ⟨rfl, rfl⟩; exact ⟨rfl, hO.q hB _⟩) ?_
  rintro r O' ⟨rfl, rfl⟩
  refine zK (qq E (fun c1 => ?_) (fun c1 => ?_))
  ·try simp only[↓cqA,cqB]at c1
   refine qd (qb (zX E (zX E (zK (qo (qS (qm (qm (qS (qm ?_))))))))))
   change retQ _ _ _ _ _ _ _
   refine retO (.inl E) (qh E qi) SubO.left rfl (hO.self _) (fun l hl => by rw [hO.dom]; exact (hL l).1 hl) ?_
   exact ⟨k, _, _, by omega, hp.2, .inl ⟨by omega, c1, rfl, rfl⟩, rfl, rfl⟩
  try simp only[↓cqA,cqB]at c1
  refine qr (qP (qa (qb (zA E (qJ E E E (by omega)) (zX E (zK ?_)))))); refine ⟨?_, ?_, ?_⟩
  ·omega
  ·refine ⟨by omega, fun j hj => ?_⟩
   by_cases hjk : j < k
   ·exact hp.2 j hjk
   ·rw [show j = k by omega]; exact c1
  exact qB (zC E (zC E (zC E (zC E SubT.nil)))) (SubO.left) (by simp [allT, AV.allL, hO.all]) (hO.self _) (fun l hl => by rw [hO.dom]; exact (hL l).1 hl)
 try simp only[↓cqA,cqB]at c0
 refine qQ (qn (qn (qX ?_))); refine qa (qd (qb (zX E (zK (qo ?_)))))
 change retQ _ _ _ _ _ _ _
 refine retO (.inl E) (qh E qi) (fun _ _ h => h) E (hO.self _) (fun l hl => by rw [hO.dom]; exact (hL l).1 hl) ?_
 exact ⟨k, _, _, by omega, hp.2, .inr ⟨by omega, rfl, rfl⟩, rfl, rfl⟩
theorem ContainsFunc_in_ok (B : Bool) (ts : List Int) (es : List (List D)) (hes : es = ts.map (fun x : Int => [D.imm (.int .i64 x)])) (hlen : ts.length ≤ 140737488351232) (g : FuncId) (caps : List AV) (hen : qW Tryz.prog g) (Os : Nat → List (Nat × Ob)) (p : Nat → Bool) (hO : Thread B caps Os)
  (hstep : ∀ k u, ts[k]? = some u → (∀ j, j < k → p j = false) → AC Tryz.prog g (iv u :: caps) (Os k) (fun r O => r = bv (p k) ∧ O = Os (k + 1))) :
  AC Tryz.prog 180 [.dat false 1 es, .fn g caps] (Os 0) (fun r O => ∃ m n b, m ≤ ts.length ∧ (∀ j, j < m → p j = false) ∧ ((m < ts.length ∧ p m = true ∧ b = true ∧ n = m + 1) ∨ (m = ts.length ∧ b = false ∧ n = m)) ∧ r = bv b ∧ O = Os n) := by
 refine qF Tryz.func180 E Tryz.ntmps180 zL fun c hL hQ hDD => (qd (qb (zX E (zK (qd (qb ?_)))))); refine zX E (zX E ?_)
 refine qaj (avs := [_, _]) B E E E zD en_slices_IndexFunc_int_int E E (IndexFunc_in_ok B ts es hes hlen g caps hen Os p hO hstep) (by simp only [List.append_nil, AV.cvs, AV.cv, hO.cvs]; rfl) (hO.pass 0) (by rintro r O' ⟨m, n, i, _, _, _, _, rfl⟩ l hl; left; rw [hO.dom] at hl ⊢; exact hl) (by rintro hB r O' ⟨m, n, i, _, _, _, rfl, rfl⟩; exact ⟨rfl, hO.q hB _⟩) ?_
 rintro r O' ⟨m, n, i, hm, hf, hc, rfl, rfl⟩
 refine zA E (qj E E E E) (zX E (zK (qo ?_)))
 change retQ _ _ _ _ _ _ _
 refine retO (.inl E) (qh E qi) SubO.left rfl (hO.self _) (fun l hl => by rw [hO.dom]; exact (hL l).1 hl) ?_; refine ⟨m, n, _, hm, hf, ?_, rfl, rfl⟩
 rcases hc with ⟨h1, h2, rfl, h3⟩ | ⟨h1, rfl, h3⟩
 ·exact .inl ⟨h1, h2, by simp, h3⟩
 ·exact .inr ⟨h1, by simp, h3⟩
theorem IndexFunc_mt_ok (B : Bool) (ts : List Mt) (es : List (List D)) (hes : es = ts.map mtD) (hlen : ts.length ≤ 140737488351232) (g : FuncId) (caps : List AV) (hen : qW Tryz.prog g) (Os : Nat → List (Nat × Ob)) (p : Nat → Bool) (hO : Thread B caps Os)
  (hstep : ∀ k u, ts[k]? = some u → (∀ j, j < k → p j = false) → AC Tryz.prog g (mtA u :: caps) (Os k) (fun r O => r = bv (p k) ∧ O = Os (k + 1))) :
  AC Tryz.prog 113 [.dat false 4 es, .fn g caps] (Os 0) (fun r O => ∃ m n i, m ≤ ts.length ∧ (∀ j, j < m → p j = false) ∧ ((m < ts.length ∧ p m = true ∧ i = (m : Int) ∧ n = m + 1) ∨ (m = ts.length ∧ i = -1 ∧ n = m)) ∧ r = iv i ∧ O = Os n) := by
 have hl : es.length = ts.length := by rw [hes, List.length_map]
 refine qF Tryz.func113 E Tryz.ntmps113 zL fun c hL hQ hDD => (qd (qb (zX E (zK (qd (qd ?_)))))); refine qb (zX E (zA E (qu E qz E) (zX E (zK (qv (q6 (ts.length) (fun k => k ≤ ts.length ∧ ∀ j, j < k → p j = false) (fun k => ⟨[(0, .dat false 4 es), (1, .fn g caps), (7, iv es.length), (8, iv (k : Int))], Os k⟩) (⟨by omega, fun j hj => absurd hj (by omega)⟩) ?_ (fun k hk hp => ?_)))))))
 ·exact qB (zC E (zC E (zC E (zC E SubT.nil)))) (fun _ _ h => h) (by simp [allT, AV.allL, hO.all]) (hO.self _) (fun l hl => by rw [hO.dom]; exact (hL l).1 hl)
 refine qd (qb (zA E (qj E E E E) (zK (qd (qq E (fun c0 => ?_) (fun c0 => ?_))))))
 ·try simp only[↓cqA,cqB]at c0
  obtain ⟨u, hu⟩ := qH (l := ts) (k := k) (by omega)
  refine qr (qa (qd (qv (qd (qb (zX E (zX E ?_))))))); refine zK (qd (qb (zX E (zX E (zX E ?_)))))
  refine zA E (qp E qz E E (by omega) (by rw [hes, List.getElem?_map]; exact congrArg (Option.map mtD) hu)) ?_; refine zA E (qC E qV E E) ?_; refine qaj (avs := [_]) B E E E zD hen E E (hstep k u hu hp.2) (by rw [List.cons_append, List.nil_append]; simp only [AV.cvs, hO.cvs]; rfl) (hO.pass k) (by rintro r O' ⟨_, rfl⟩ l hl; left; rw [hO.dom] at hl ⊢; exact hl) (by rintro hB r O' ⟨rfl, rfl⟩; exact ⟨rfl, hO.q hB _⟩) ?_
  rintro r O' ⟨rfl, rfl⟩
  refine zK (qq E (fun c1 => ?_) (fun c1 => ?_))
  ·try simp only[↓cqA,cqB]at c1
   refine qd (qb (zX E (zX E (zK (qo (qS (qm (qm (qS (qm ?_))))))))))
   change retQ _ _ _ _ _ _ _
   refine retO (.inl E) (qh E qi) SubO.left rfl (hO.self _) (fun l hl => by rw [hO.dom]; exact (hL l).1 hl) ?_
   exact ⟨k, _, _, by omega, hp.2, .inl ⟨by omega, c1, rfl, rfl⟩, rfl, rfl⟩
  try simp only[↓cqA,cqB]at c1
  refine qr (qP (qa (qb (zA E (qJ E E E (by omega)) (zX E (zK ?_)))))); refine ⟨?_, ?_, ?_⟩
  ·omega
  ·refine ⟨by omega, fun j hj => ?_⟩
   by_cases hjk : j < k
   ·exact hp.2 j hjk
   ·rw [show j = k by omega]; exact c1
  exact qB (zC E (zC E (zC E (zC E SubT.nil)))) (SubO.left) (by simp [allT, AV.allL, hO.all]) (hO.self _) (fun l hl => by rw [hO.dom]; exact (hL l).1 hl)
 try simp only[↓cqA,cqB]at c0
 refine qQ (qn (qn (qX ?_))); refine qa (qd (qb (zX E (zK (qo ?_)))))
 change retQ _ _ _ _ _ _ _
 refine retO (.inl E) (qh E qi) (fun _ _ h => h) E (hO.self _) (fun l hl => by rw [hO.dom]; exact (hL l).1 hl) ?_
 exact ⟨k, _, _, by omega, hp.2, .inr ⟨by omega, rfl, rfl⟩, rfl, rfl⟩
theorem ContainsFunc_mt_ok (B : Bool) (ts : List Mt) (es : List (List D)) (hes : es = ts.map mtD) (hlen : ts.length ≤ 140737488351232) (g : FuncId) (caps : List AV) (hen : qW Tryz.prog g) (Os : Nat → List (Nat × Ob)) (p : Nat → Bool) (hO : Thread B caps Os)
  (hstep : ∀ k u, ts[k]? = some u → (∀ j, j < k → p j = false) → AC Tryz.prog g (mtA u :: caps) (Os k) (fun r O => r = bv (p k) ∧ O = Os (k + 1))) :
  AC Tryz.prog 65 [.dat false 4 es, .fn g caps] (Os 0) (fun r O => ∃ m n b, m ≤ ts.length ∧ (∀ j, j < m → p j = false) ∧ ((m < ts.length ∧ p m = true ∧ b = true ∧ n = m + 1) ∨ (m = ts.length ∧ b = false ∧ n = m)) ∧ r = bv b ∧ O = Os n) := by
 refine qF Tryz.func65 E Tryz.ntmps65 zL fun c hL hQ hDD => (qd (qb (zX E (zK (qd (qb ?_)))))); refine zX E (zX E ?_)
 refine qaj (avs := [_, _]) B E E E zD qdd E E (IndexFunc_mt_ok B ts es hes hlen g caps hen Os p hO hstep) (by simp only [List.append_nil, AV.cvs, AV.cv, hO.cvs]; rfl) (hO.pass 0) (by rintro r O' ⟨m, n, i, _, _, _, _, rfl⟩ l hl; left; rw [hO.dom] at hl ⊢; exact hl) (by rintro hB r O' ⟨m, n, i, _, _, _, rfl, rfl⟩; exact ⟨rfl, hO.q hB _⟩) ?_
 rintro r O' ⟨m, n, i, hm, hf, hc, rfl, rfl⟩
 refine zA E (qj E E E E) (zX E (zK (qo ?_)))
 change retQ _ _ _ _ _ _ _
 refine retO (.inl E) (qh E qi) SubO.left rfl (hO.self _) (fun l hl => by rw [hO.dom]; exact (hL l).1 hl) ?_; refine ⟨m, n, _, hm, hf, ?_, rfl, rfl⟩
 rcases hc with ⟨h1, h2, rfl, h3⟩ | ⟨h1, rfl, h3⟩
 ·exact .inl ⟨h1, h2, by simp, h3⟩
 ·exact .inr ⟨h1, by simp, h3⟩
theorem ruleBad_ok (m : Mt) (hm : m.wf) : PF 66 [mtA m] (bv (!(mayB m.b))) := by
 have hw := hm.1.2
 refine qF Tryz.func66 E Tryz.ntmps66 zL fun c hL hQ hDD => (qd (qb (qy E E zD (qaa 1 E E E) E (zX E (zK (qd ?_)))))); refine qb (zA E (qe E qaA E) (zA E (ql E qap E E E E E) (qE (avs := [_]) true E E E zD en_bind_May E E (bindMay_ok m.b hw) E E (zA E (qal E E) (zX E (zK (qo (zI hL (qh E qi) ?_ ?_))))))))
 ·rfl
 exact ⟨rfl, rfl⟩
def inL (gone : List Int) (n : Int) : Bool := gone.any fun g => decide (g = n)
theorem fresh1_ok (gone : List Int) (hg : gone.length ≤ 140737488351232) (n : Int) : AC Tryz.prog 181 [iv n, .ptr 3 0] [(3, .box [.dat false 1 (inDs gone)])] (fun r O => r = bv (inL gone n) ∧ O = [(3, .box [.dat false 1 (inDs gone)])]) := by
 refine qF Tryz.func181 E Tryz.ntmps181 zL fun c hL hQ hDD => (qd (qb (zX E (zK (qd (qb ?_)))))); refine zA E (ql E qbM E E E E E) (zX E (qE (avs := [_, _]) true E E E zD en_slices_Contains_int_int E E (Contains_in_ok gone hg n) E E (zX E (zK (qo ?_)))))
 change retQ _ _ _ _ _ _ _
 refine retO (O' := [(3, _)]) (.inl E) (qh E qi) (SubO.cons E SubO.nil) ?_ ?_ (LO hL E) ?_
 ·rfl
 ·rfl
 exact ⟨rfl, rfl⟩
theorem ruleFresh_ok (m : Mt) (hm : m.wf) (gone : List Int) (hg : gone.length ≤ 140737488351232) : PF 116 [mtA m, .dat false 1 (inDs gone)] (bv (freshB gone m)) := by
 have hul := hm.2.2.1
 simp only [qba] at hul
 refine qF Tryz.func116 E Tryz.ntmps116 zL fun c hL hQ hDD => (qd (qb (qy E E zD (qaa 2 E E E) E (qy E E zD (qaa 3 E E E) E (zX E (zK ?_)))))); refine qd (qb (zA E (qe E qaY E) (zA E (ql E qbM E E E E E) (zA E (qdL (vs := [_]) E E) ?_))))
 refine qaj (avs := [_, _]) false E E E zD en_slices_ContainsFunc_int_int E E (ContainsFunc_in_ok false m.u _ E (by omega) _ [.ptr 3 0] en_rule_fresh_1 (fun _ => [(3, .box [.dat false 1 (inDs gone)])]) (fun k => match m.u[k]? with | some n => inL gone n | none => false) ⟨fun k l => rfl, fun k => qbX (.cons E trivial E .nil), fun k => rfl, fun k => rfl, fun k => rfl, fun k => rfl, fun h => by cases h⟩ (fun k n hn _ => by rw [hn]; exact fresh1_ok gone hg n)) E (qbX (.cons E trivial E .nil)) (by rintro r O' ⟨j, n, b, _, _, _, _, rfl⟩; exact frB E) (by rintro h; cases h) ?_
 rintro r O' ⟨j, n, b, hm1, hf1, hc, rfl, rfl⟩
 refine zA E (qal E E) (zX E (zK (qo (zI hL (qh E qi) ?_ ?_))))
 ·rfl
 refine ⟨qT ?_, rfl⟩
 rw [freshB]
 congr 1
 rcases hc with ⟨h1, h2, rfl, _⟩ | ⟨h1, rfl, _⟩
 ·obtain ⟨x, hx⟩ := qH (l := m.u) (k := j) h1
  simp only [hx] at h2
  exact (List.any_eq_true.2 ⟨x, List.mem_of_getElem? hx, h2⟩).symm
 ·refine (List.any_eq_false.2 fun x hx => ?_).symm
  obtain ⟨i, hi⟩ := List.getElem?_of_mem hx
  have := hf1 i (by rw [h1]; exact (List.getElem?_eq_some_iff.1 hi).1)
  simp only [hi] at this
  exact (by rw [show (gone.any fun g => decide (g = x)) = inL gone x from rfl, this]; exact Bool.noConfusion)
theorem Clone_inT_ok (l : List Int) (hl : l.length ≤ 1000000000) : AC Tryz.prog 179 [.dat false 1 (inDs l)] [] (fun r O => r = .row 2 ∧ O = [(2, .rowd 3 1 true (inDs l))]) := by
  have hlen := qbm l
  refine qF Tryz.func179 E Tryz.ntmps179 zL fun c hL hQ hDD => (qd (qb (zX E (zK (qd (qd ?_)))))); refine qb (zX E (awps_eqnil E E zD qaL E E (fun g4 hg4 => ?_))); refine zK (qq E (fun c0 => ?_) (fun c0 => ?_))
  · try simp only[↓cqA,cqB]at c0
    refine qd (qb (zX E (qaB (qaU (t := 2) (l := 2) 3 1 true E E) (zK (qo (qm ?_))))))
    change retQ _ _ _ _ _ _ _
    have he := hg4 c0
    have hl0 : l = [] := by cases l with
      | nil => rfl
      | cons a l => simp [inDs] at he
    subst hl0
    refine retO (O' := [(2, _)]) (.inl E) (qh E qi) (SubO.cons E SubO.nil) ?_ ?_ (noL' (noL hL) _) ?_
    · rfl
    · rfl
    exact ⟨rfl, rfl⟩
  try simp only[↓cqA,cqB]at c0
  refine qr ?_; refine qa ?_; refine qd ?_; refine qb ?_; refine qy E E zD (stp_buildSlice0 5 true E qaL zv_int) E ?_; refine zX E ?_; refine qc1 E E zD (stpU_appendi 7 ta_S_int E E E E (immDs_in _) E (noL hL _) (inDs_len1 _) (by simp; omega) E) E ?_; refine zX E ?_; refine qc ?_; refine qa ?_; refine qo ?_
  change retQ _ _ _ _ _ _ _
  refine retS (qaC 7 2 (noL hL _) (noL hL _)) (retO (O' := [(2, _)]) (.inl E) (qh E qi) (SubO.cons E SubO.nil) ?_ ?_ (noL' (noL hL) _) ?_)
  · rfl
  · rfl
  exact ⟨rfl, rfl⟩
theorem meetOwn_ok {n : Nat} (hn : n ≤ 1000000) (m : Mt) (hm : MOk n m) : PF 115 [mtA m] (.agg (lift true (mtD m))) := by
 have hb := hm.gg.gb.bok
 have hu := hm.ul
 refine qF Tryz.func115 E Tryz.ntmps115 zL fun c hL hQ hDD => (qd (qb (qy E E zD (qaa 1 E E E) E (qy E E zD (qaD 2 E qax E) E (zK (qd ?_)))))); refine qZ 8 mixed E E E E (qf E zD (.run E (qe E qaA E)) (qf E zD (.run E (ql E qap E E E E E)) (qf E zD (.run E (qY (avs := [_]) true E en_bind_Own E E (bindOwnT_ok m.b hb) (fun _ => rfl) E)) (qf E zD (.run E (qe E q9 E)) (qf E zD (.run E (ql E qaO E E E E E)) (qf E zD (.run E (qe E qaY E)) (qf E zD (.run E (ql E qbM E E E E E)) ?_)))))))
 refine MGo_u E E zD (qcD (avs := [_]) true E en_slices_Clone_int_int E E (AC_rnE 2 77 (Clone_inT_ok m.u (by omega))) (fun _ => rfl) E) (qak ⟨rfl, rfl, ?_⟩); refine qaB (qa4 (l := 77) E zD (noL hL _) E E) (zA E (qa1 E qax E qbk E E) (qae E E E qV E E E E E E E E E (zK (qo (zI hL (qbb qV E E E qi) ?_ ?_)))))
 ·rfl
 exact ⟨rfl, rfl⟩
theorem meetOwns_ok {n : Nat} (hn : n ≤ 1000000) (l : List Mt) (hl : l.length ≤ 1000000) (hm : ∀ m ∈ l, MOk n m) : AC Tryz.prog 67 [.dat false 4 (mtDs l)] [] (fun r O => r = .row 2 ∧ O = [(2, .rowd 55 4 true (mtDs l))]) := by
 have hlen := qau l
 refine qF Tryz.func67 E Tryz.ntmps67 zL fun c hL hQ hDD => (qd (qb (zX E (zK (qd (qd ?_)))))); refine qb (zX E (zA E (qu E qz E) (zX E (zK (qv (q6 (l.length) (fun k => k ≤ l.length) (fun k => ⟨[(2, .row 2), (5, .dat false 4 (mtDs l)), (6, iv (mtDs l).length), (7, iv (k : Int))], [(2, .rowd 55 4 true (mtDs (l.take k)))]⟩) (by omega) ?_ (fun k hk hp => ?_)))))))
 ·exact Sub.trans (qaU (t := 2) (l := 2) 55 4 true E E) (qB (zC E (zC E (zC E (zC E SubT.nil)))) (SubO.cons (qR E (by rfl)) SubO.nil) E E (noL' (noL hL) _))
 have hl2 : (mtDs (l.take k)).length ≤ l.length := by rw [qau, List.length_take]; omega
 refine qd (qb (zA E (qj E E E E) (zK (qd (qq E (fun c0 => ?_) (fun c0 => ?_))))))
 ·try simp only[↓cqA,cqB]at c0
  obtain ⟨u, hu⟩ := qH (l := l) (k := k) (by omega)
  have hum := hm u (List.mem_of_getElem? hu)
  refine qr (qa (qd (qv (qd (qb (zA E (qp E qz E E (by omega) (qa9 hu)) (zA E (qC E qV E E) (qy E E zD (qaD 4 E qax E) E (qae E E E qV E E E E E E E E E (zK (qb (zX E (zA E (qK E qV E E E E) (qE (avs := [_]) true E E E zD en_meet_Own E E (meetOwn_ok hn u hum) E E (qy E E zD (qam 14 E qz qax E E zD zD zD E E E) E (qc1 E E zD (qa5 15 qcU E E E E E E E E (noL hL _) (by omega) E) E ?_))))))))))))))))
  refine zX E (qc (qP (qa (qb (zA E (qJ E E E (by omega)) (zX E (qc ?_))))))); refine qa ?_; refine ⟨?_, ?_, ?_⟩
  ·omega
  ·omega
  exact Sub.trans (qaC 15 2 (noL hL _) (noL hL _)) (qB (zC E (zC E (zC E (zC E SubT.nil)))) (SubO.cons (qR E (by rw [qac hu, mtDs_snoc]; rfl)) SubO.nil) E E (noL' (noL hL) _))
 try simp only[↓cqA,cqB]at c0
 refine qQ (qn (qn (qX ?_))); refine qa (qd (qb (zX E (zX E (zK (qo ?_))))))
 change retQ _ _ _ _ _ _ _
 refine retO (O' := [(2, _)]) (.inl E) (qh E qi) (SubO.cons E SubO.nil) ?_ ?_ (noL' (noL hL) _) ?_
 ·rfl
 ·rfl
 exact ⟨rfl, by rw [List.take_of_length_le (by omega)]⟩
def atI : Option (Nat × Mt) → Int
 | none => -1
 | some b => (b.1 : Int)
theorem best_ok {n : Nat} (hn : n ≤ 1000000) (policy : Int) (l : List Mt) (hl : l.length ≤ 1000000) (hm : ∀ m ∈ l, MOk n m) (gone : List Int) (hg : gone.length ≤ 140737488351232) : PF 68 [iv policy, .dat false 4 (mtDs l), .dat false 1 (inDs gone)] (iv (atI (qc5 policy gone 0 l none))) := by
 have hlen := qau l
 refine qF Tryz.func68 E Tryz.ntmps68 zL fun c hL hQ hDD => (qd (qb (zX E (zK (qd (qb ?_)))))); refine zX E (zK (qd (qd (qb (zX E (zA E (qu E qz E) (zX E (zK (qv (q6 (l.length) (fun k => k ≤ l.length) (fun k => ⟨[(0, iv policy), (1, .dat false 4 (mtDs l)), (2, .dat false 1 (inDs gone)), (7, iv (atI (qc5 policy gone 0 (l.take k) none))), (12, .dat false 4 (mtDs l)), (13, iv (mtDs l).length), (14, iv (k : Int))], []⟩) (by omega) ?_ (fun k hk hp => ?_)))))))))))
 ·exact zR hL (zC E (zC E (zC E (zC E (zC E (zC E (zC E SubT.nil))))))) SubO.nil
 refine qd (qb (zA E (qj E E E E) (zK (qd (qq E (fun c0 => ?_) (fun c0 => ?_))))))
 ·try simp only[↓cqA,cqB]at c0
  obtain ⟨u, hu⟩ := qH (l := l) (k := k) (by omega)
  have hum := hm u (List.mem_of_getElem? hu)
  have huw := hum.wf hn
  have htk := bestL_take policy gone hu
  have hin := bestL_in policy gone l k (by omega)
  refine qr (qa (qd (qv (qd (qb (zX E (zA E (qp E qz E E (by omega) (qa9 hu)) ?_))))))); refine zA E (qC E qV E E) ?_
  refine qy E E zD (qaD 9 E qax E) E (zX E (qae E E E qV E E E E E E E E E (zK (qd (qd (qb ?_)))))); refine zX E (zA E (qj E E E E) (zX E (qt 21 E (fun g21 => ?_) (fun g21 => ?_))))
  ·try simp only[↓cqA,cqB]at g21
   refine zZ E (qK E qV E E E E) (zZ E (qk (.inl E) E) (zZ E (qY (avs := [_, _]) true E en_rule_fresh E E (ruleFresh_ok u huw gone hg) (fun _ => rfl) E) (zZ E (qal E E) (zA E (qg E E E) (zK (qq E (fun c1 => ?_) (fun c1 => ?_)))))))
   ·try simp only[↓cqA,cqB]at c1
    have hst : qc5 policy gone 0 (l.take (k + 1)) none = qc5 policy gone 0 (l.take k) none := by
     rw [htk]; unfold bestS; rw [if_pos ⟨by assumption, by assumption⟩]
    refine qQ (qn (qX ?_)); refine qa (qb (zA E (qJ E E E (by omega)) (zX E (zK ?_)))); refine ⟨?_, ?_, ?_⟩
    ·omega
    ·omega
    exact zR hL (zC E (zC E (zC E (SubT.cons (qan E (by first | exact qL hst.symm | exact qL (by rw [hst]) | exact qL (hyes (by omega)).symm | exact qL (hnot (by omega)).symm)) (zC E (zC E (zC E SubT.nil))))))) SubO.nil
   try simp only[↓cqA,cqB]at c1
   refine qr (qa (qd (qd ?_)))
   have hnf : ¬ (policy = 2 ∧ freshB gone u = false) := fun h => by
    first
     | exact absurd h.1 (by assumption)
     | (rw [show freshB gone u = true by assumption] at h; exact absurd h.2 zD)
   refine qb (zX E (zA E (qj E E E E) (zK (qq E (fun c2 => ?_) (fun c2 => ?_)))))
   ·try simp only[↓cqA,cqB]at c2
    have hno : qc5 policy gone 0 (l.take k) none = none := by
     cases h : qc5 policy gone 0 (l.take k) none with
     | none => rfl
     | some b => rw [h] at c2; simp only [atI] at c2; omega
    have hst : atI (qc5 policy gone 0 (l.take (k + 1)) none) = (k : Int) := by
     rw [htk, hno, bestS, if_neg hnf]; rfl
    refine qd (qb (zX E (zX E (zK (qQ (qn (qX ?_))))))); refine qa (qb (zA E (qJ E E E (by omega)) (zX E (zK ?_)))); refine ⟨?_, ?_, ?_⟩
    ·omega
    ·omega
    exact zR hL (zC E (zC E (zC E (SubT.cons (qan E (by first | exact qL hst.symm | exact qL (by rw [hst]) | exact qL (hyes (by omega)).symm | exact qL (hnot (by omega)).symm)) (zC E (zC E (zC E SubT.nil))))))) SubO.nil
   try simp only[↓cqA,cqB]at c2
   obtain ⟨b, hb⟩ : ∃ b, qc5 policy gone 0 (l.take k) none = some b := by
    cases h : qc5 policy gone 0 (l.take k) none with
    | none => rw [h] at c2; simp only [atI] at c2; omega
    | some b => exact ⟨b, rfl⟩
   obtain ⟨hb1, hb2, _⟩ := hin b hb
   have hbm := hm b.2 (List.mem_of_getElem? hb1)
   have hbw := hbm.wf hn
   have x1 := hum.lo; have x2 := hum.mid; have x3 := hum.hi
   have y1 := hbm.lo; have y2 := hbm.mid; have y3 := hbm.hi
   have hcr := cmpM_rng u b.2
   rw [hb, show atI (some b) = (b.1 : Int) from rfl]
   refine qr (qa (qd (qZ 16 mixed E E E E (qf E zD (.run E (qe E q9 E)) (qf E zD (.run E (qe E qah E)) (qf E zD (.run E (ql E qU E E E E E)) (qf E zD (.run E (qk (.inl E) E)) ?_))))))); refine qf E zD (.run E (qk (.inl E) E)) (qf E zD (.run E (qp E qz E E (by omega) (qa9 hb1))) (qf E zD (.run E (qA E q9 E)) (qf E zD (.run E (qA E qah E)) (qf E zD (.run E (qN E qU E)) (qf E zD (.run E (qa0 E E E (by omega))) (qf E zD (.run E (qK E qV E E E E)) (qf E zD (.run E (qk (.inl E) E)) (qf E zD (.run E (qk (.inl E) E)) (qf E zD (.run E (qp E qz E E (by omega) (qa9 hb1))) (qf E zD (.run E (qC E qV E E)) ?_))))))))))
   refine qf E zD (.run E (qY (avs := [_, _]) true E en_meet_Compare E E (meetCompare_ok u b.2 hum.dle huw hbw) (fun _ => rfl) E)) (qak ⟨rfl, rfl, ?_⟩); refine zX E (zX E (zK (qcN ⟨[(0, iv policy), (1, .dat false 4 (mtDs l)), (2, .dat false 1 (inDs gone)), (7, iv (b.1 : Int)), (8, iv (k : Int)), (10, iv (if policy = 1 then -(u.fr - b.2.fr) else u.fr - b.2.fr)), (11, iv (if policy = 1 then -(cmpM u b.2) else cmpM u b.2)), (12, .dat false 4 (mtDs l)), (13, iv (mtDs l).length), (14, iv (k : Int))], []⟩ ?_ ?_)))
   ·refine qd (qb (zX E (zA E (qj E E E E) (zK (qq E (fun c3 => ?_) (fun c3 => ?_))))))
    ·try simp only[↓cqA,cqB]at c3
     refine qb (zX E (zA E (stp_neg E E (by omega)) (zX E (zA E (stp_neg E E (by omega)) (zX E (zX E (qc ?_)))))))
     exact qai (qB (zC E (zC E (zC E (zC E (zC E (SubT.cons (qan E (by first | exact qL (by rw [if_pos (show policy = 1 by assumption)]) | exact qL (by rw [if_neg (show ¬ policy = 1 by assumption)]))) (SubT.cons (qan rfl (by first | exact qL (by rw [if_pos (show policy = 1 by assumption)]) | exact qL (by rw [if_neg (show ¬ policy = 1 by assumption)]))) (zC rfl (zC rfl (zC rfl SubT.nil)))))))))) SubO.nil rfl rfl (noL' (noL hL) _))
    try simp only[↓cqA,cqB]at c3
    refine qr ?_
    exact qai (qB (zC E (zC E (zC E (zC E (zC E (SubT.cons (qan E (by first | exact qL (by rw [if_pos (show policy = 1 by assumption)]) | exact qL (by rw [if_neg (show ¬ policy = 1 by assumption)]))) (SubT.cons (qan rfl (by first | exact qL (by rw [if_pos (show policy = 1 by assumption)]) | exact qL (by rw [if_neg (show ¬ policy = 1 by assumption)]))) (zC rfl (zC rfl (zC rfl SubT.nil)))))))))) SubO.nil rfl rfl (noL' (noL hL) _))
   refine qd ?_
   have htake : takeB policy u b.2 = (decide ((if policy = 1 then -(u.fr - b.2.fr) else u.fr - b.2.fr) < 0) || (decide ((if policy = 1 then -(u.fr - b.2.fr) else u.fr - b.2.fr) = 0) && decide ((if policy = 1 then -(cmpM u b.2) else cmpM u b.2) < 0))) := by
    rw [takeB]; split <;> rfl
   generalize (if policy = 1 then -(u.fr - b.2.fr) else u.fr - b.2.fr) = X at *
   generalize (if policy = 1 then -(cmpM u b.2) else cmpM u b.2) = Y at *
   have hyes : (X < 0 ∨ X = 0 ∧ Y < 0) → atI (qc5 policy gone 0 (l.take (k + 1)) none) = (k : Int) := fun h => by
    have h2 : takeB policy u b.2 = true := by
     rw [htake]; simp only [Bool.or_eq_true, Bool.and_eq_true, decide_eq_true_eq]; exact h
    rw [htk, hb, bestS, if_neg hnf]
    show atI (if takeB policy u b.2 = true then some (k, u) else some b) = (k : Int)
    rw [if_pos h2]; rfl
   have hnot : ¬ (X < 0 ∨ X = 0 ∧ Y < 0) → atI (qc5 policy gone 0 (l.take (k + 1)) none) = (b.1 : Int) := fun h => by
    have h2 : ¬ takeB policy u b.2 = true := by
     rw [htake]; simp only [Bool.or_eq_true, Bool.and_eq_true, decide_eq_true_eq]; exact h
    rw [htk, hb, bestS, if_neg hnf]
    show atI (if takeB policy u b.2 = true then some (k, u) else some b) = (b.1 : Int)
    rw [if_neg h2]; rfl
   refine qb (zX E (zA E (qj E E E E) (zX E (qt 54 E (fun g54 => ?_) (fun g54 => ?_)))))
   ·try simp only[↓cqA,cqB]at g54
    refine zY E (zY E (zY E (qaE E E E zD E zD (qaE E E E zD E zD (zY E ?_)))))
    refine zA E (qg E E E) (zK (qaN E (qb (zX E (zX E (qc ?_)))))); refine qP (qa (qb (zA E (qJ E E E (by omega)) (zX E (zK ?_))))); refine ⟨?_, ?_, ?_⟩
    ·omega
    ·omega
    exact zR hL (zC E (zC E (zC E (SubT.cons (qan E (by first | exact qL hst.symm | exact qL (by rw [hst]) | exact qL (hyes (by omega)).symm | exact qL (hnot (by omega)).symm)) (zC E (zC E (zC E SubT.nil))))))) SubO.nil
   try simp only[↓cqA,cqB]at g54
   refine zZ E (qk (.inl E) E) (zZ E (qj E E E E) (zZ E (qk (.inl E) E) (qt 57 E (fun g57 => ?_) (fun g57 => ?_))))
   ·try simp only[↓cqA,cqB]at g57
    refine zZ E (qk (.inl E) E) (zZ E (qj E E E E) (zZ E (qg E E E) (zA E (qg E E E) (zK (qq E (fun c4 => ?_) (fun c4 => ?_))))))
    ·try simp only[↓cqA,cqB]at c4
     refine qb (zX E (zX E (qc (qP (qa (qb (zA E (qJ E E E (by omega)) ?_))))))); refine zX E (zK ?_); refine ⟨?_, ?_, ?_⟩
     ·omega
     ·omega
     exact zR hL (zC E (zC E (zC E (SubT.cons (qan E (by first | exact qL hst.symm | exact qL (by rw [hst]) | exact qL (hyes (by omega)).symm | exact qL (hnot (by omega)).symm)) (zC E (zC E (zC E SubT.nil))))))) SubO.nil
    try simp only[↓cqA,cqB]at c4
    refine qr (qP (qa (qb (zA E (qJ E E E (by omega)) (zX E (zK ?_)))))); refine ⟨?_, ?_, ?_⟩
    ·omega
    ·omega
    exact zR hL (zC E (zC E (zC E (SubT.cons (qan E (by first | exact qL hst.symm | exact qL (by rw [hst]) | exact qL (hyes (by omega)).symm | exact qL (hnot (by omega)).symm)) (zC E (zC E (zC E SubT.nil))))))) SubO.nil
   try simp only[↓cqA,cqB]at g57
   refine zY E (zY E (zZ E (qg E E E) (zA E (qg E E E) (zK (qab E (qr ?_)))))); refine qP ?_
   refine qa (qb (zA E (qJ E E E (by omega)) (zX E (zK ?_)))); refine ⟨?_, ?_, ?_⟩
   ·omega
   ·omega
   exact zR hL (zC E (zC E (zC E (SubT.cons (qan E (by first | exact qL hst.symm | exact qL (by rw [hst]) | exact qL (hyes (by omega)).symm | exact qL (hnot (by omega)).symm)) (zC E (zC E (zC E SubT.nil))))))) SubO.nil
  try simp only[↓cqA,cqB]at g21
  refine zY E (zY E (zY E (zY E (zA E (qg E E E) (zK (qab E ?_)))))); refine qr (qa (qd (qd ?_)))
  have hnf : ¬ (policy = 2 ∧ freshB gone u = false) := fun h => by
   first
    | exact absurd h.1 (by assumption)
    | (rw [show freshB gone u = true by assumption] at h; exact absurd h.2 zD)
  refine qb (zX E (zA E (qj E E E E) (zK (qq E (fun c2 => ?_) (fun c2 => ?_)))))
  ·try simp only[↓cqA,cqB]at c2
   have hno : qc5 policy gone 0 (l.take k) none = none := by
    cases h : qc5 policy gone 0 (l.take k) none with
    | none => rfl
    | some b => rw [h] at c2; simp only [atI] at c2; omega
   have hst : atI (qc5 policy gone 0 (l.take (k + 1)) none) = (k : Int) := by
    rw [htk, hno, bestS, if_neg hnf]; rfl
   refine qd (qb (zX E (zX E (zK (qQ (qn (qX ?_))))))); refine qa (qb (zA E (qJ E E E (by omega)) (zX E (zK ?_)))); refine ⟨?_, ?_, ?_⟩
   ·omega
   ·omega
   exact zR hL (zC E (zC E (zC E (SubT.cons (qan E (by first | exact qL hst.symm | exact qL (by rw [hst]) | exact qL (hyes (by omega)).symm | exact qL (hnot (by omega)).symm)) (zC E (zC E (zC E SubT.nil))))))) SubO.nil
  try simp only[↓cqA,cqB]at c2
  obtain ⟨b, hb⟩ : ∃ b, qc5 policy gone 0 (l.take k) none = some b := by
   cases h : qc5 policy gone 0 (l.take k) none with
   | none => rw [h] at c2; simp only [atI] at c2; omega
   | some b => exact ⟨b, rfl⟩
  obtain ⟨hb1, hb2, _⟩ := hin b hb
  have hbm := hm b.2 (List.mem_of_getElem? hb1)
  have hbw := hbm.wf hn
  have x1 := hum.lo; have x2 := hum.mid; have x3 := hum.hi
  have y1 := hbm.lo; have y2 := hbm.mid; have y3 := hbm.hi
  have hcr := cmpM_rng u b.2
  rw [hb, show atI (some b) = (b.1 : Int) from rfl]
  refine qr (qa (qd (qZ 16 mixed E E E E (qf E zD (.run E (qe E q9 E)) (qf E zD (.run E (qe E qah E)) (qf E zD (.run E (ql E qU E E E E E)) (qf E zD (.run E (qk (.inl E) E)) ?_))))))); refine qf E zD (.run E (qk (.inl E) E)) (qf E zD (.run E (qp E qz E E (by omega) (qa9 hb1))) (qf E zD (.run E (qA E q9 E)) (qf E zD (.run E (qA E qah E)) (qf E zD (.run E (qN E qU E)) (qf E zD (.run E (qa0 E E E (by omega))) (qf E zD (.run E (qK E qV E E E E)) (qf E zD (.run E (qk (.inl E) E)) (qf E zD (.run E (qk (.inl E) E)) (qf E zD (.run E (qp E qz E E (by omega) (qa9 hb1))) (qf E zD (.run E (qC E qV E E)) ?_))))))))))
  refine qf E zD (.run E (qY (avs := [_, _]) true E en_meet_Compare E E (meetCompare_ok u b.2 hum.dle huw hbw) (fun _ => rfl) E)) (qak ⟨rfl, rfl, ?_⟩); refine zX E (zX E (zK (qcN ⟨[(0, iv policy), (1, .dat false 4 (mtDs l)), (2, .dat false 1 (inDs gone)), (7, iv (b.1 : Int)), (8, iv (k : Int)), (10, iv (if policy = 1 then -(u.fr - b.2.fr) else u.fr - b.2.fr)), (11, iv (if policy = 1 then -(cmpM u b.2) else cmpM u b.2)), (12, .dat false 4 (mtDs l)), (13, iv (mtDs l).length), (14, iv (k : Int))], []⟩ ?_ ?_)))
  ·refine qd (qb (zX E (zA E (qj E E E E) (zK (qq E (fun c3 => ?_) (fun c3 => ?_))))))
   ·try simp only[↓cqA,cqB]at c3
    refine qb (zX E (zA E (stp_neg E E (by omega)) (zX E (zA E (stp_neg E E (by omega)) (zX E (zX E (qc ?_)))))))
    exact qai (qB (zC E (zC E (zC E (zC E (zC E (SubT.cons (qan E (by first | exact qL (by rw [if_pos (show policy = 1 by assumption)]) | exact qL (by rw [if_neg (show ¬ policy = 1 by assumption)]))) (SubT.cons (qan rfl (by first | exact qL (by rw [if_pos (show policy = 1 by assumption)]) | exact qL (by rw [if_neg (show ¬ policy = 1 by assumption)]))) (zC rfl (zC rfl (zC rfl SubT.nil)))))))))) SubO.nil rfl rfl (noL' (noL hL) _))
   try simp only[↓cqA,cqB]at c3
   refine qr ?_
   exact qai (qB (zC E (zC E (zC E (zC E (zC E (SubT.cons (qan E (by first | exact qL (by rw [if_pos (show policy = 1 by assumption)]) | exact qL (by rw [if_neg (show ¬ policy = 1 by assumption)]))) (SubT.cons (qan rfl (by first | exact qL (by rw [if_pos (show policy = 1 by assumption)]) | exact qL (by rw [if_neg (show ¬ policy = 1 by assumption)]))) (zC rfl (zC rfl (zC rfl SubT.nil)))))))))) SubO.nil rfl rfl (noL' (noL hL) _))
  refine qd ?_
  have htake : takeB policy u b.2 = (decide ((if policy = 1 then -(u.fr - b.2.fr) else u.fr - b.2.fr) < 0) || (decide ((if policy = 1 then -(u.fr - b.2.fr) else u.fr - b.2.fr) = 0) && decide ((if policy = 1 then -(cmpM u b.2) else cmpM u b.2) < 0))) := by
   rw [takeB]; split <;> rfl
  generalize (if policy = 1 then -(u.fr - b.2.fr) else u.fr - b.2.fr) = X at *
  generalize (if policy = 1 then -(cmpM u b.2) else cmpM u b.2) = Y at *
  have hyes : (X < 0 ∨ X = 0 ∧ Y < 0) → atI (qc5 policy gone 0 (l.take (k + 1)) none) = (k : Int) := fun h => by
   have h2 : takeB policy u b.2 = true := by
    rw [htake]; simp only [Bool.or_eq_true, Bool.and_eq_true, decide_eq_true_eq]; exact h
   rw [htk, hb, bestS, if_neg hnf]
   show atI (if takeB policy u b.2 = true then some (k, u) else some b) = (k : Int)
   rw [if_pos h2]; rfl
  have hnot : ¬ (X < 0 ∨ X = 0 ∧ Y < 0) → atI (qc5 policy gone 0 (l.take (k + 1)) none) = (b.1 : Int) := fun h => by
   have h2 : ¬ takeB policy u b.2 = true := by
    rw [htake]; simp only [Bool.or_eq_true, Bool.and_eq_true, decide_eq_true_eq]; exact h
   rw [htk, hb, bestS, if_neg hnf]
   show atI (if takeB policy u b.2 = true then some (k, u) else some b) = (b.1 : Int)
   rw [if_neg h2]; rfl
  refine qb (zX E (zA E (qj E E E E) (zX E (qt 54 E (fun g54 => ?_) (fun g54 => ?_)))))
  ·try simp only[↓cqA,cqB]at g54
   refine zY E (zY E (zY E (qaE E E E zD E zD (qaE E E E zD E zD (zY E ?_)))))
   refine zA E (qg E E E) (zK (qaN E (qb (zX E (zX E (qc ?_)))))); refine qP (qa (qb (zA E (qJ E E E (by omega)) (zX E (zK ?_))))); refine ⟨?_, ?_, ?_⟩
   ·omega
   ·omega
   exact zR hL (zC E (zC E (zC E (SubT.cons (qan E (by first | exact qL hst.symm | exact qL (by rw [hst]) | exact qL (hyes (by omega)).symm | exact qL (hnot (by omega)).symm)) (zC E (zC E (zC E SubT.nil))))))) SubO.nil
  try simp only[↓cqA,cqB]at g54
  refine zZ E (qk (.inl E) E) (zZ E (qj E E E E) (zZ E (qk (.inl E) E) (qt 57 E (fun g57 => ?_) (fun g57 => ?_))))
  ·try simp only[↓cqA,cqB]at g57
   refine zZ E (qk (.inl E) E) (zZ E (qj E E E E) (zZ E (qg E E E) (zA E (qg E E E) (zK (qq E (fun c4 => ?_) (fun c4 => ?_))))))
   ·try simp only[↓cqA,cqB]at c4
    refine qb (zX E (zX E (qc (qP (qa (qb (zA E (qJ E E E (by omega)) ?_))))))); refine zX E (zK ?_); refine ⟨?_, ?_, ?_⟩
    ·omega
    ·omega
    exact zR hL (zC E (zC E (zC E (SubT.cons (qan E (by first | exact qL hst.symm | exact qL (by rw [hst]) | exact qL (hyes (by omega)).symm | exact qL (hnot (by omega)).symm)) (zC E (zC E (zC E SubT.nil))))))) SubO.nil
   try simp only[↓cqA,cqB]at c4
   refine qr (qP (qa (qb (zA E (qJ E E E (by omega)) (zX E (zK ?_)))))); refine ⟨?_, ?_, ?_⟩
   ·omega
   ·omega
   exact zR hL (zC E (zC E (zC E (SubT.cons (qan E (by first | exact qL hst.symm | exact qL (by rw [hst]) | exact qL (hyes (by omega)).symm | exact qL (hnot (by omega)).symm)) (zC E (zC E (zC E SubT.nil))))))) SubO.nil
  try simp only[↓cqA,cqB]at g57
  refine zY E (zY E (zZ E (qg E E E) (zA E (qg E E E) (zK (qab E (qr ?_)))))); refine qP ?_
  refine qa (qb (zA E (qJ E E E (by omega)) (zX E (zK ?_)))); refine ⟨?_, ?_, ?_⟩
  ·omega
  ·omega
  exact zR hL (zC E (zC E (zC E (SubT.cons (qan E (by first | exact qL hst.symm | exact qL (by rw [hst]) | exact qL (hyes (by omega)).symm | exact qL (hnot (by omega)).symm)) (zC E (zC E (zC E SubT.nil))))))) SubO.nil
 try simp only[↓cqA,cqB]at c0
 refine qQ (qn (qn (qX ?_))); refine qa (qd (qb (zX E (zX E (zK (qo (zI hL (qh E qi) ?_ ?_)))))))
 ·rfl
 exact ⟨qa2 (by rw [List.take_of_length_le (by omega)]), rfl⟩
theorem Chosen_ok {n : Nat} (hn : n ≤ 1000000) (r : Rl) (hr : r.wf) (hok : okR r = true) (l : List Mt) (hl : l.length ≤ 1000000) (hm : ∀ m ∈ l, MOk n m) (gone : List Int) (hg : gone.length ≤ 140737488351232) : PF 23 [rlA r, .dat false 4 (mtDs l), .dat false 1 (inDs gone)] (.tup [.dat true 4 (mtDs (qbK r.policy gone l)), iv 0]) := by
 have hlen := qau l
 refine qF Tryz.func23 E Tryz.ntmps23 zL fun c hL hQ hDD => (qd (qb (qy E E zD (qaa 3 E E E) E (zX E (zX E (zK ?_)))))); refine qd (qd (qb (zA E (qK E qca E E E E) (qE (avs := [_]) true E E E zD en_show_Rule E E (showRule_ok r hr) E E (zA E (qal E E) (zX E (qt 12 E (fun g12 => ?_) (fun g12 => ?_))))))))
 ·try simp only[↓cqA,cqB]at g12
  rw [hok] at g12; cases g12
 try simp only[↓cqA,cqB]at g12
 refine zZ E (qk (.inl E) E) ?_
 refine awps_gcallP (avs := [_, _]) false E E E zD E E zD qbF E E (ContainsFunc_mt_ok false l _ E (by omega) _ [] en_rule_bad (fun _ => []) (fun k => match l[k]? with | some m => !(mayB m.b) | none => false) ⟨fun k l => rfl, fun k => qbX .nil, fun k => rfl, fun k => rfl, fun k => rfl, fun k => rfl, fun h => by cases h⟩ (fun k m hk _ => by rw [hk]; exact ruleBad_ok m ((hm m (List.mem_of_getElem? hk)).wf hn))) E (qbX .nil) (by rintro r O' ⟨j, n, b, _, _, _, _, rfl⟩; exact frB E) (by rintro h; cases h) ?_
 rintro r2 O' ⟨j, n2, b, hm1, hf1, hc, rfl, rfl⟩
 have hb : b = false := by
  rcases hc with ⟨h1, h2, rfl, _⟩ | ⟨h1, rfl, _⟩
  ·obtain ⟨x, hx⟩ := qH (l := l) (k := j) h1
   simp only [hx] at h2
   rw [(hm x (List.mem_of_getElem? hx)).mayB] at h2; cases h2
  ·rfl
 subst hb
 refine zA E (qg E E E) (zK (qq E (fun c0 => ?_) (fun c0 => ?_)))
 ·try simp only[↓cqA,cqB]at c0
  cases c0
 try simp only[↓cqA,cqB]at c0
 refine qr (qa (qd (qd (qb (zA E (qe E qdm E) (zA E (ql E qU E E E E E) (zA E (qj E E E E) ?_))))))); refine zK (qq E (fun c1 => ?_) (fun c1 => ?_))
 ·try simp only[↓cqA,cqB]at c1
  have hch : qbK r.policy gone l = l := by rw [qbK, if_pos (by assumption)]
  refine qd ?_; refine qb ?_; refine zX E ?_; refine qaj (avs := [_]) true E E E zD en_meet_Owns E E (meetOwns_ok hn l hl hm) E (qbX .nil) (by rintro r O' ⟨_, rfl⟩; exact frB E) (by rintro - r O' ⟨rfl, rfl⟩; exact ⟨rfl, rfl⟩) ?_
  rintro r2 O' ⟨rfl, rfl⟩
  refine zX E (zX E (qaB (qa4 (l := 2) E zD (noL hL _) E E) (zK (qo (qm (zI hL (qh E (qh E qi)) ?_ ?_))))))
  ·rfl
  exact ⟨by rw [hch]; rfl, rfl⟩
 try simp only[↓cqA,cqB]at c1
 refine qr (qa (qd (qb (zA E (qe E qdm E) (zA E (ql E qU E E E E E) (zX E (zX E (qE (avs := [_, _, _]) true E E E zD en_rule_best E E (best_ok hn r.policy l hl hm gone hg) E E (zX E (zK (qd (qd (qb (zX E (zA E (qj E E E E) (zK (qq E (fun c2 => ?_) (fun c2 => ?_))))))))))))))))))
 ·try simp only[↓cqA,cqB]at c2
  have hno : qc5 r.policy gone 0 l none = none := by
   cases h : qc5 r.policy gone 0 l none with
   | none => rfl
   | some b => rw [h] at c2; simp only [atI] at c2; omega
  have hch : qbK r.policy gone l = [] := by rw [qbK, if_neg (by assumption), hno]
  refine qd (qb (zX E (zX E (qaB (sub_nil_dat (t := 6) 4 true E) (zK (qo ?_)))))); refine qm (zI hL (qh E (qh E qi)) ?_ ?_)
  ·rfl
  exact ⟨by rw [hch]; rfl, rfl⟩
 try simp only[↓cqA,cqB]at c2
 obtain ⟨b, hb⟩ : ∃ b, qc5 r.policy gone 0 l none = some b := by
  cases h : qc5 r.policy gone 0 l none with
  | none => rw [h] at c2; simp only [atI] at c2; omega
  | some b => exact ⟨b, rfl⟩
 have hin := bestL_in r.policy gone l l.length (Nat.le_refl _) b (by rw [List.take_length]; exact hb)
 have hb1 := hin.1
 have hb2 := hin.2.1
 have hch : qbK r.policy gone l = [b.2] := by rw [qbK, if_neg (by assumption), hb]
 rw [hb, show atI (some b) = (b.1 : Int) from rfl]
 have hsl : ((mtDs l).take ((b.1 : Int) + 1).toNat).drop (b.1 : Int).toNat = mtDs [b.2] := by
  rw [show ((b.1 : Int) + 1).toNat = b.1 + 1 by omega, show (b.1 : Int).toNat = b.1 from rfl, qac (qa9 hb1), List.drop_append, List.drop_eq_nil_of_le (by rw [List.length_take]; omega), List.length_take, show b.1 - min b.1 (mtDs l).length = 0 by omega]
  rfl
 refine qr (qa (qd (qb (zX E (zX E (zX E (zA E (qJ E E E (by omega)) ?_))))))); refine zA E (stp_sldLH E qz E E E (by omega) (by omega) (by omega)) ?_
 rw [hsl]
 refine qaj (avs := [_]) true E E E zD en_meet_Owns E E (meetOwns_ok hn [b.2] (by simp) (fun m h => by rw [List.mem_singleton.1 h]; exact hm _ (List.mem_of_getElem? hb1))) E (qbX .nil) (by rintro r O' ⟨_, rfl⟩; exact frB E) (by rintro - r O' ⟨rfl, rfl⟩; exact ⟨rfl, rfl⟩) ?_
 rintro r2 O' ⟨rfl, rfl⟩
 refine zX E (zX E (qaB (qa4 (l := 2) E zD (noL hL _) E E) (zK (qo (zI hL (qh E (qh E qi)) ?_ ?_)))))
 ·rfl
 exact ⟨by rw [hch]; rfl, rfl⟩
theorem CompactFunc_ft_ok (ts : List Ft) (hlen : ts.length ≤ 1000000000) (cap : Nat) (hc1 : ts.length ≤ cap) (hc2 : cap ≤ maxLen) (f : Ft → Ft → Int)
  (hstep : ∀ a ∈ ts, ∀ b ∈ ts, AC Tryz.prog 125 [ftA a, ftA b] [] (fun r O => r = bv (decide (f a b = 0)) ∧ O = [])) :
  AC Tryz.prog 124 [.vw 0 0 ts.length cap, .fn 125 []] [(0, .arr 69 6 false ((ts.map ftD).map some ++ List.replicate (cap - ts.length) none))] (fun r O => ∃ A' : List (Option (List D)), A'.length = cap ∧ (∀ (q : Nat) (x : Ft), (compG f ts)[q]? = some x → A'[q]? = some (some (ftD x))) ∧ r = .vw 0 0 (compG f ts).length cap ∧ O = [(0, .arr 69 6 false A')]) := by
 have hml : maxLen = 9223372036854775807 := rfl
 have hAl : ((ts.map ftD).map some ++ List.replicate (cap - ts.length) (none : Option (List D))).length = cap := by simp; omega
 have hst0 : ∀ (q : Nat) (x : Ft), ts[q]? = some x → ((ts.map ftD).map some ++ List.replicate (cap - ts.length) none)[q]? = some (some (ftD x)) := arr_start ftD ts _
 refine qF Tryz.func124 E Tryz.ntmps124 zL fun c hL hQ hDD => (qd (qb (zX E (zK (qd (qd ?_)))))); refine qb (zX E (zA E (qdj E qaV E) (zA E (qj E E E E) (zK (qq E (fun c0 => ?_) (fun c0 => ?_))))))
 ·try simp only[↓cqA,cqB]at c0
  refine qd (qb (zX E (zX E (zK (qo (qm ?_))))))
  change retQ _ _ _ _ _ _ _
  refine retO (O' := [(0, _)]) (.inl E) (qh E qi) (SubO.cons E SubO.nil) ?_ ?_ (LO hL E) ?_
  ·rfl
  ·rfl
  have hone := compG_one f (l := ts) (by omega)
  rw [hone]
  exact ⟨_, hAl, hst0, rfl, rfl⟩
 try simp only[↓cqA,cqB]at c0
 refine qr ?_; refine qa ?_; refine qd ?_; refine qd ?_; refine qb ?_; refine zX E ?_; refine qc ?_; refine qa ?_; refine qv ?_; refine q6 (ts.length) (fun i => i + 1 ≤ ts.length ∧ compG f (ts.take (i + 1)) = ts.take (i + 1)) (fun i => ⟨[(0, .vw 0 0 ts.length cap), (1, .fn 125 []), (5, iv ((i + 1 : Nat) : Int))], [(0, .arr 69 6 false ((ts.map ftD).map some ++ List.replicate (cap - ts.length) none))]⟩) (⟨by omega, compG_one f (by rw [List.length_take]; omega)⟩) ?_ (fun i hi hpi => ?_)
 ·exact qB (zC E (zC E (zC E SubT.nil))) (SubO.cons (qR E (by rfl)) SubO.nil) E E (LO hL E)
 refine qd (qd (qb (zX E (zX E (zA E (qdj E qaV E) (zA E (qj E E E E) (qc ?_))))))); refine qa (qq E (fun c1 => ?_) (fun c1 => ?_))
 ·try simp only[↓cqA,cqB]at c1
  obtain ⟨u, hu⟩ := qH (l := ts) (k := i + 1) (by omega)
  obtain ⟨v, hv⟩ := qH (l := ts) (k := i) (by omega)
  have htk := compG_take f hu hv
  refine qr (qa (qd (qv (qd (qZ 10 mixed E E E E (qf E zD (.run E (qk (.inl E) E)) (qf E zD (.run E (qk (.inl E) E)) ?_))))))); refine qf E zD (.run E (qk (.inl E) E)) (qf E zD (.run E (qas E qaV E E (by omega) (by omega))) (qf E zD (.run E (qbu (i := i + 1) (j := 0) E qbg E E (by omega) (hst0 _ u hu) zD zD E)) (qf E zD (.run E (qk (.inl E) E)) (qf E zD (.run E (qk (.inl E) E)) (qf E zD (.run E (qa0 E E E (by omega))) (qf E zD (.run E (qas E qaV E E (by omega) (by omega))) ?_))))))
  refine qf E zD (.run E (qbu (i := i) (j := 0) E qbg E E (by omega) (hst0 _ v hv) zD zD E)) (qak ⟨rfl, rfl, ?_⟩); refine qE (avs := [_, _]) false E E E zD en_rule_Heads_1 E E (hstep u (List.mem_of_getElem? hu) v (List.mem_of_getElem? hv)) E E (zK (qq E (fun c2 => ?_) (fun c2 => ?_)))
  ·try simp only[↓cqA,cqB]at c2
   have hd1 : compG f (ts.take (i + 2)) = ts.take (i + 1) := by rw [htk, if_pos (by assumption), hpi.2, List.append_nil]
   have hlt1 : (ts.take (i + 1)).length = i + 1 := by rw [List.length_take]; omega
   have hoff : (if (cap : Int) = ((i + 1 : Nat) : Int) then 0 else 0 + (((i + 1 : Nat) : Int)).toNat * 6) = (i + 1) * 6 := by rw [if_neg (by omega)]; omega
   have hp00 : i + 2 + 0 ≤ ts.length ∧ (i + 1, (ts.map ftD).map some ++ List.replicate (cap - ts.length) (none : Option (List D))).1 = (compG f (ts.take (i + 2 + 0))).length ∧ (i + 1, (ts.map ftD).map some ++ List.replicate (cap - ts.length) (none : Option (List D))).1 + 1 ≤ i + 2 + 0 ∧ (i + 1, (ts.map ftD).map some ++ List.replicate (cap - ts.length) (none : Option (List D))).2.length = cap ∧ (∀ (q : Nat) (x : Ft), (compG f (ts.take (i + 2 + 0)))[q]? = some x → (i + 1, (ts.map ftD).map some ++ List.replicate (cap - ts.length) (none : Option (List D))).2[q]? = some (some (ftD x))) ∧ ∀ (q : Nat) (x : Ft), i + 1 + 0 ≤ q → ts[q]? = some x → (i + 1, (ts.map ftD).map some ++ List.replicate (cap - ts.length) (none : Option (List D))).2[q]? = some (some (ftD x)) := by
    refine ⟨by omega, by rw [Nat.add_zero, hd1, hlt1], by simp, hAl, fun q x hq => ?_, fun q x _ hq => hst0 q x hq⟩
    rw [Nat.add_zero, hd1, List.getElem?_take] at hq
    split at hq
    ·exact hst0 q x hq
    ·cases hq
   refine qd (qb (zX E (zX E (zA E (stp_slvL E qaV E E (by omega) (by omega) (by omega)) (zX E (zK ?_)))))); refine qd (qd (qb (zX E (zK (qv ?_)))))
   refine qdq (α := Nat × List (Option (List D))) (ts.length) (fun j a => i + 2 + j ≤ ts.length ∧ a.1 = (compG f (ts.take (i + 2 + j))).length ∧ a.1 + 1 ≤ i + 2 + j ∧ a.2.length = cap ∧ (∀ (q : Nat) (x : Ft), (compG f (ts.take (i + 2 + j)))[q]? = some x → a.2[q]? = some (some (ftD x))) ∧ ∀ (q : Nat) (x : Ft), i + 1 + j ≤ q → ts[q]? = some x → a.2[q]? = some (some (ftD x))) (fun j a => ⟨[(0, .vw 0 0 ts.length cap), (1, .fn 125 []), (5, iv (a.1 : Int)), (6, .vw 0 ((i + 1) * 6) (ts.length - (i + 1)) (cap - (i + 1))), (7, iv ((j + 1 : Nat) : Int))], [(0, .arr 69 6 false a.2)]⟩) ((i + 1, (ts.map ftD).map some ++ List.replicate (cap - ts.length) none)) (hp00) ?_ (fun j a hj hpj => ?_)
   ·exact qB (zC E (zC E (zC E (SubT.cons (qan E (by (rw [hoff]; rfl))) (zC E SubT.nil))))) (SubO.cons (qR E (by rfl)) SubO.nil) E E (LO hL E)
   refine qd (qd (qb (zX E (zX E (zA E (qdj E qaV E) (zA E (qj E E E E) (qc ?_))))))); refine qa (qq E (fun c3 => ?_) (fun c3 => ?_))
   ·try simp only[↓cqA,cqB]at c3
    obtain ⟨x, hx⟩ := qH (l := ts) (k := i + 2 + j) (by omega)
    obtain ⟨y, hy⟩ := qH (l := ts) (k := i + 1 + j) (by omega)
    have htj := compG_take f (l := ts) (k := i + 1 + j) (by rw [show i + 1 + j + 1 = i + 2 + j by omega]; exact hx) hy
    rw [show i + 1 + j + 2 = i + 2 + (j + 1) by omega, show i + 1 + j + 1 = i + 2 + j by omega] at htj
    refine qr (qa (qd (qv (qd (qZ 10 mixed E E E E (qf E zD (.run E (qk (.inl E) E)) (qf E zD (.run E (qk (.inl E) E)) ?_))))))); refine qf E zD (.run E (qk (.inl E) E)) (qf E zD (.run E (qas E qaV E E (by omega) (by omega))) (qf E zD (.run E (qbu (i := i + 2 + j) (j := 0) E qbg E E (by omega) (hpj.2.2.2.2.2 _ x (by omega) hx) zD zD E)) (qf E zD (.run E (qk (.inl E) E)) (qf E zD (.run E (qk (.inl E) E)) (qf E zD (.run E (qa0 E E E (by omega))) (qf E zD (.run E (qas E qaV E E (by omega) (by omega))) ?_))))))
    refine qf E zD (.run E (qbu (i := i + 1 + j) (j := 0) E qbg E E (by omega) (hpj.2.2.2.2.2 _ y (by omega) hy) zD zD E)) (qak ⟨rfl, rfl, ?_⟩); refine qE (avs := [_, _]) false E E E zD en_rule_Heads_1 E E (hstep x (List.mem_of_getElem? hx) y (List.mem_of_getElem? hy)) E E (zA E (qal E E) (zK (qq E (fun c4 => ?_) (fun c4 => ?_))))
    ·try simp only[↓cqA,cqB]at c4
     let a2 : Nat × List (Option (List D)) := (a.1 + 1, a.2.set a.1 (some (ftD x)))
     have hne : ¬ f x y = 0 := by simpa using c4
     rw [if_neg hne] at htj
     have hstp : a2.1 = (compG f (ts.take (i + 2 + (j + 1)))).length ∧ a2.1 + 1 ≤ i + 2 + (j + 1) ∧ a2.2.length = cap ∧ (∀ (q : Nat) (z : Ft), (compG f (ts.take (i + 2 + (j + 1))))[q]? = some z → a2.2[q]? = some (some (ftD z))) ∧ ∀ (q : Nat) (z : Ft), i + 1 + (j + 1) ≤ q → ts[q]? = some z → a2.2[q]? = some (some (ftD z)) := by
      rw [htj]
      refine ⟨by simp [a2, hpj.2.1], show a.1 + 1 + 1 ≤ i + 2 + (j + 1) by (have := hpj.2.2.1; omega), by simp [a2, hpj.2.2.2.1], fun q z hq => ?_, fun q z hq hz => ?_⟩
      ·simp only [a2, List.getElem?_set]
       by_cases hqa : a.1 = q
       ·subst hqa
        rw [if_pos rfl, if_pos (by omega)]
        rw [List.getElem?_append_right (by omega)] at hq
        simp [hpj.2.1] at hq
        rw [hq]
       ·rw [if_neg hqa]
        rcases Nat.lt_or_ge q a.1 with h1 | h1
        ·rw [List.getElem?_append_left (by omega)] at hq
         exact hpj.2.2.2.2.1 q z hq
        ·have := (List.getElem?_eq_some_iff.1 hq).1
         simp at this; omega
      ·simp only [a2, List.getElem?_set]
       rw [if_neg (by omega)]
       exact hpj.2.2.2.2.2 q z (by omega) hz
     refine qd (qb (zX E (zX E (zX E (zX E (zA E (qas E qaV E E (by omega) (by omega)) (zA E (qbu (i := i + 2 + j) (j := 0) E qbg E E (by omega) (hpj.2.2.2.2.2 _ x (by omega) hx) zD zD E) (zA E (qas E qaV E E (by omega) (by omega)) (qb6 a.1 E E E qbg E E (by simp) (by omega) E E E E E E (zK (qb (zX E ?_))))))))))))
     refine zA E (qJ E E E (by omega)) (zX E (qc (qP (qa (qb (zX E (zA E (qJ E E E (by omega)) ?_))))))); refine zX E (zK ?_); refine ⟨?_, a2, ?_, ?_⟩
     ·omega
     ·exact ⟨by omega, hstp.1, hstp.2.1, hstp.2.2.1, hstp.2.2.2.1, hstp.2.2.2.2⟩
     exact qB (zC E (zC E (zC E (zC E (SubT.cons (qan E (by exact qL (by push_cast; omega))) SubT.nil))))) (SubO.cons (qR E (by rfl)) SubO.nil) E E (LO hL E)
    try simp only[↓cqA,cqB]at c4
    let a2 : Nat × List (Option (List D)) := a
    have hne : f x y = 0 := by simpa using c4
    rw [if_pos hne, List.append_nil] at htj
    have hstp : a2.1 = (compG f (ts.take (i + 2 + (j + 1)))).length ∧ a2.1 + 1 ≤ i + 2 + (j + 1) ∧ a2.2.length = cap ∧ (∀ (q : Nat) (z : Ft), (compG f (ts.take (i + 2 + (j + 1))))[q]? = some z → a2.2[q]? = some (some (ftD z))) ∧ ∀ (q : Nat) (z : Ft), i + 1 + (j + 1) ≤ q → ts[q]? = some z → a2.2[q]? = some (some (ftD z)) := by
     rw [htj]
     exact ⟨hpj.2.1, show a.1 + 1 ≤ i + 2 + (j + 1) by (have := hpj.2.2.1; omega), hpj.2.2.2.1, hpj.2.2.2.2.1, fun q z hq hz => hpj.2.2.2.2.2 q z (by omega) hz⟩
    refine qr (qP (qa (qb (zX E (zA E (qJ E E E (by omega)) (zX E (qc ?_))))))); refine qa ?_; refine ⟨?_, a2, ?_, ?_⟩
    ·omega
    ·exact ⟨by omega, hstp.1, hstp.2.1, hstp.2.2.1, hstp.2.2.2.1, hstp.2.2.2.2⟩
    exact qB (zC E (zC E (zC E (zC E (SubT.cons (qan E (by exact qL (by push_cast; omega))) SubT.nil))))) (SubO.cons (qR E (by rfl)) SubO.nil) E E (LO hL E)
   try simp only[↓cqA,cqB]at c3
   refine qQ (qn (qn (qX ?_))); refine qa (qd (qb (zX E (zX E (zA E (stp_slvL E qaV E E (by omega) (by omega) (by omega)) ?_)))))
   refine awps_clear a.1 E E E qaV zv_api_Fact E E E E (fun _ => by rw [if_neg (by omega)]; simp) (by omega) (fun es2 hl2 hk2 => ?_); refine qc ?_; refine qa ?_; refine qd ?_; refine qb ?_; refine zX E ?_; refine zX E (zA E (stp_slvH E qaV E E (by omega) (by omega) (by omega)) (zX E (zK (qo (qS (qm (qm (qS (qm ?_)))))))))
   change retQ _ _ _ _ _ _ _
   refine retO (O' := [(0, _)]) (.inl E) (qh E qi) (SubO.cons E SubO.nil) ?_ ?_ (LO hL E) ?_
   ·rfl
   ·rfl
   have hall : ts.take (i + 2 + j) = ts := List.take_of_length_le (by omega)
   have h1 := hpj.2.1
   have h4 := hpj.2.2.2.2.1
   rw [hall] at h1 h4
   refine ⟨es2, by rw [hl2]; exact hpj.2.2.2.1, fun q x hq => ?_, ?_, rfl⟩
   ·have hqa := (List.getElem?_eq_some_iff.1 hq).1
    rw [hk2 q (by omega)]
    exact h4 q x hq
   ·rw [← h1]; simp [resV]
  try simp only[↓cqA,cqB]at c2
  refine qr (qP (qa (qb (zX E (zA E (qJ E E E (by omega)) (zX E (qc ?_))))))); refine qa ?_; refine ⟨?_, ?_, ?_⟩
  ·omega
  ·refine ⟨by omega, ?_⟩
   rw [show i + 1 + 1 = i + 2 from rfl, htk, if_neg (by assumption), hpi.2, ← qac hu]
  exact qB (zC E (zC E (SubT.cons (qan E (by exact qL (by push_cast; omega))) SubT.nil))) (SubO.cons (qR E (by rfl)) SubO.nil) E E (LO hL E)
 try simp only[↓cqA,cqB]at c1
 refine qQ (qn (qn (qX ?_))); refine qa (qd (qb (zX E (zX E (zK (qo ?_))))))
 change retQ _ _ _ _ _ _ _
 refine retO (O' := [(0, _)]) (.inl E) (qh E qi) (SubO.cons E SubO.nil) ?_ ?_ (LO hL E) ?_
 ·rfl
 ·rfl
 have h1 := hpi.2
 rw [List.take_of_length_le (by omega)] at h1
 rw [h1]
 exact ⟨_, hAl, hst0, rfl, rfl⟩
theorem cmpF_same {a b : Ft} (hd : dle 5 a.t) (h : cmpF a b = 0) : a = b := by
 have h1 := orL_zeros h (cmpT 5 a.t b.t) (by simp)
 have h2 := orL_zeros h (cmpI a.fr b.fr) (by simp)
 have h3 := orL_zeros h (cmpI a.to b.to) (by simp)
 cases a; cases b
 simp only [Ft.mk.injEq]
 exact ⟨(cmpT_eq hd).1 h1, (cmpI_zero _ _).1 h2, (cmpI_zero _ _).1 h3⟩
theorem comp_once {α : Type} {f : α → α → Int} (hf : TP f) {D : α → Prop} (hz : ∀ a b, D a → D b → f a b = 0 → a = b) {l m : List α} (hl : ∀ x ∈ l, D x) (hp : m.Perm l) (hs : m.Pairwise fun x y => ¬ f y x < 0) : compG f m = qaS f [] l := by
 obtain ⟨a1, a2⟩ := putsG_spec hf hz l [] (fun a ha => by cases ha) hl List.Pairwise.nil
 obtain ⟨b1, b2⟩ := compG_spec hf hz m (fun a ha => hl a (hp.mem_iff.1 ha)) hs
 exact b1.uniq hf a1 fun x => by rw [a2, b2, hp.mem_iff]; simp
def onceF (l : List Ft) : List Ft := qaS cmpF [] l
theorem onceF_comp {l m : List Ft} (hl : ∀ x ∈ l, dle 5 x.t) (hp : m.Perm l) (hs : m.Pairwise fun x y => ¬ cmpF y x < 0) : compG cmpF m = onceF l :=
 comp_once TP.ft (D := fun x => dle 5 x.t) (fun a b ha _ h => cmpF_same ha h) hl hp hs
def headF (h : Tm) (m : Mt) : Ft := ⟨putT m.b h, m.fr, m.to⟩
theorem CompactNil_ft_ok (g : FuncId) : AC Tryz.prog 124 [.imm (.slice none 0 0), .fn g []] [] (fun r O => r = .imm (.slice none 0 0) ∧ O = []) := by
 refine qF Tryz.func124 E Tryz.ntmps124 zL fun c hL hQ hDD => (qd (qb (zX E (zK (qd (qd ?_)))))); refine qb (zX E (zA E (stp_len_nil E qaV E) (zA E (qj E E E E) (zK (qq E (fun c0 => ?_) (fun c0 => ?_))))))
 ·try simp only[↓cqA,cqB]at c0
  refine qd (qb (zX E (zX E (zK (qo (qm (zI hL (qh E qi) ?_ ?_)))))))
  ·rfl
  exact ⟨rfl, rfl⟩
 try simp only[↓cqA,cqB]at c0
 simp at c0
theorem heads1_ok (a b : Ft) (hd : dle 5 a.t) (ha : a.wf) (hb : b.wf) : PF 125 [ftA a, ftA b] (bv (decide (cmpF a b = 0))) := by
 refine qF Tryz.func125 E Tryz.ntmps125 zL fun c hL hQ hDD => (qd (qb (qy E E zD (qaa 2 E E E) E (qy E E zD (qaa 3 E E E) E (zX E (zK ?_)))))); refine qd (qb (zA E (qK E qbg E E E E) (zA E (qK E qbg E E E E) (qE (avs := [_, _]) true E E E zD en_facts_Compare E E (factsCompare_ok a b hd ha hb) E E (zA E (qj E E E E) (zX E (zK (qo (zI hL (qh E qi) ?_ ?_)))))))))
 ·rfl
 exact ⟨rfl, rfl⟩
theorem headF_io {n : Nat} {h : Tm} {m : Mt} (hm : MOk n m) (hn : n ≤ 1000000) (hh : h.wf) (ht : mayT (putT m.b h) = true) : (headF h m).wf ∧ dle 5 (headF h m).t :=
 ⟨⟨putT_wf hm.gg.gb.bok hh, (hm.wf hn).2.1⟩, qbA ht⟩
theorem Heads_ok {n : Nat} (hn : n ≤ 1000000) (r : Rl) (hr : r.wf) (hok : okR r = true) (l : List Mt) (hl : l.length ≤ 100000) (hm : ∀ m ∈ l, MOk n m) (hh : ∀ m ∈ l, mayT (putT m.b r.head) = true ∧ groundB (putT m.b r.head) = true) : PF 72 [rlA r, .dat false 4 (mtDs l)] (.tup [.dat false 6 (ftDs (onceF (l.map (headF r.head)))), iv 0]) := by
  have hlen := qau l
  have hrm : mayT r.head = true := by
    simp only [okR, Bool.and_eq_true] at hok
    exact hok.1.1.1.1.1.1.2
  have hio : ∀ m ∈ l, (headF r.head m).wf ∧ dle 5 (headF r.head m).t := fun m h => headF_io (hm m h) hn hr.1 (hh m h).1
  have hio2 : ∀ x ∈ l.map (headF r.head), x.wf ∧ dle 5 x.t := fun x hx => by
    obtain ⟨m, h1, rfl⟩ := List.mem_map.1 hx
    exact hio m h1
  have hlm : (l.map (headF r.head)).length = l.length := List.length_map ..
  refine qF Tryz.func72 E Tryz.ntmps72 zL fun c hL hQ hDD => (qd (qb (qy E E zD (qaa 2 E E E) E (zX E (zX E (zK ?_)))))); refine qd (qd (qb (zA E (qK E qca E E E E) (qE (avs := [_]) true E E E zD en_show_Rule E E (showRule_ok r hr) E E (zA E (qal E E) (zX E (qt 14 E (fun g14 => ?_) (fun g14 => ?_))))))))
  · try simp only[↓cqA,cqB]at g14
    rw [hok] at g14; cases g14
  try simp only[↓cqA,cqB]at g14
  refine zZ E (qk (.inl E) E) ?_
  refine awps_gcallP (avs := [_, _]) false E E E zD E E zD qbF E E (ContainsFunc_mt_ok false l _ E (by omega) _ [] en_rule_bad (fun _ => []) (fun k => match l[k]? with | some m => !(mayB m.b) | none => false) ⟨fun k l => rfl, fun k => qbX .nil, fun k => rfl, fun k => rfl, fun k => rfl, fun k => rfl, fun h => by cases h⟩ (fun k m hk _ => by rw [hk]; exact ruleBad_ok m ((hm m (List.mem_of_getElem? hk)).wf hn))) E (qbX .nil) (by rintro r O' ⟨j, n, b, _, _, _, _, rfl⟩; exact frB E) (by rintro h; cases h) ?_
  rintro r2 O' ⟨j, n2, b, hm1, hf1, hc, rfl, rfl⟩
  have hb : b = false := by
    rcases hc with ⟨h1, h2, rfl, _⟩ | ⟨h1, rfl, _⟩
    · obtain ⟨x, hx⟩ := qH (l := l) (k := j) h1
      simp only [hx] at h2
      rw [(hm x (List.mem_of_getElem? hx)).mayB] at h2; cases h2
    · rfl
  subst hb
  refine zA E (qg E E E) (zK (qq E (fun c0 => ?_) (fun c0 => ?_)))
  · try simp only[↓cqA,cqB]at c0
    cases c0
  try simp only[↓cqA,cqB]at c0
  refine qr (qa (qd (qb (zX E (zK (qd ?_)))))); refine qb (zX E (zK (qd (qd (qb (zX E ?_)))))); refine zA E (qu E qz E) (zX E (zK (qv (q6 (l.length) (fun k => k ≤ l.length) (fun k => ⟨[(2, .ptr 2 0), (6, iv 0), (7, .row 7), (18, .dat false 4 (mtDs l)), (19, iv (mtDs l).length), (20, iv (k : Int))], [(2, .box (lift false (rlD r))), (7, .rowd 69 6 true (ftDs ((l.take k).map (headF r.head))))]⟩) (by omega) ?_ (fun k hk hp => ?_)))))
  · exact Sub.trans (qaU (t := 7) (l := 7) 69 6 true E E) (qB (zC E (zC E (zC E (zC E (zC E (zC E SubT.nil)))))) (SubO.cons (qR E (by rfl)) (SubO.cons (qR E (by rfl)) SubO.nil)) E E (noL' (noL hL) _))
  have hl2 : (ftDs ((l.take k).map (headF r.head))).length ≤ l.length := by rw [ftDs_length, List.length_map, List.length_take]; omega
  refine qd (qb (zA E (qj E E E E) (zK (qd (qq E (fun c1 => ?_) (fun c1 => ?_))))))
  · try simp only[↓cqA,cqB]at c1
    obtain ⟨u, hu⟩ := qH (l := l) (k := k) (by omega)
    have hum := List.mem_of_getElem? hu
    have hub := (hm u hum).gg.gb.bok
    have hpm := hh u hum
    have hpw := putT_wf hub hr.1
    refine qr (qa (qd (qv (qd (qb (zA E (qp E qz E E (by omega) (qa9 hu)) (zA E (qC E qV E E) ?_))))))); refine qy E E zD (qaD 9 E qax E) E (qae E E E qV E E E E E E E E E (zK (qd (qb (zA E (qe E qaA E) (zA E (ql E qap E E E E E) (zA E (qe E qcs E) (zA E (ql E qw E E E E E) ?_))))))))
    refine qE (avs := [_, _]) true E E E zD en_bind_Put E E (Put_ok u.b hub r.head (qbA hrm) hr.1) E E (qy E E zD (qaD 10 E qaw E) E (qae E E E qw E E E E E E E E E (zK (qd (qd (qb ?_)))))); refine zA E (qK E qw E E E E) (qE (avs := [_]) true E E E zD en_term_Is E E (Is_ok (putT u.b r.head) hpw hpm.1) E E (zA E (qal E E) (zK (qq E (fun c2 => ?_) (fun c2 => ?_)))))
    · try simp only[↓cqA,cqB]at c2
      rw [hpm.2] at c2; cases c2
    try simp only[↓cqA,cqB]at c2
    refine qr (qa (qd (qd (qb (zA E (qK E qw E E E E) (qE (avs := [_]) true E E E zD qcL E E (May_ok (putT u.b r.head) hpw) E E (zA E (qal E E) ?_))))))); refine zK (qq E (fun c3 => ?_) (fun c3 => ?_))
    · try simp only[↓cqA,cqB]at c3
      rw [hpm.1] at c3; cases c3
    try simp only[↓cqA,cqB]at c3
    refine qr (qa (qb (zX E (zA E (qK E qw E E E E) (zA E (qe E q9 E) (zA E (ql E qaO E E E E E) (zA E (qa1 E zv_api_Fact E pl_api_Fact E E) (qy E E zD (qam 40 E qaV zv_api_Fact E E zD zD zD E E E) E (qc1 E E zD (qa5 41 ta_S_api_Fact E E E E E E E E (noL hL _) (by omega) E) E ?_)))))))))
    refine zX E (qc (qP (qa (qb (zA E (qJ E E E (by omega)) (zX E (qc ?_))))))); refine qa ?_; refine ⟨?_, ?_, ?_⟩
    · omega
    · omega
    exact Sub.trans (qaC 41 7 (noL hL _) (noL hL _)) (qB (zC E (zC E (zC E (zC E (zC E (zC E SubT.nil)))))) (SubO.cons (qR E (by rfl)) (SubO.cons (qR E (by rw [qac hu, List.map_append, ftDs, ftDs, List.map_append]; rfl)) SubO.nil)) E E (noL' (noL hL) _))
  try simp only[↓cqA,cqB]at c1
  refine qQ (qn (qn (qX ?_))); refine qa (qd (qd (qb (zX E (zA E (qj E E E E) (zK ?_)))))); refine qq E (fun c4 => ?_) (fun c4 => ?_)
  · try simp only[↓cqA,cqB]at c4
    first | exact absurd E (by simpa using c4) | (simp at c4)
  try simp only[↓cqA,cqB]at c4
  refine qr (qa (qd (qb (zX E ?_))))
  refine awps_sort Tryz.srtF (k := 6) zD qbg (sf := 122) E en_facts_Compare qdC (toD := ftD) (es := l.map (headF r.head)) (cf := cmpF) E E zD E E E (by rw [List.take_of_length_le (by omega)]; rfl) (by rw [List.length_map]; omega) (fun x hx y hy => factsCompare_ok _ _ (hio2 x hx).2 (hio2 x hx).1 (hio2 y hy).1) (fun x _ => by rw [TP.ft.self]; decide) (fun x _ y _ z _ h1 h2 => TP.ft.lt1 h1 (by omega)) (fun x _ y _ z _ h1 h2 h3 => ?_) (fun es' hp hs => ?_)
  · have h4 := TP.ft.anti x y
    have h5 := TP.ft.anti y z
    have h6 := TP.ft.anti x z
    have h7 := TP.ft.tr z y x (by omega) (by omega)
    omega
  have hcomp := onceF_comp (fun x hx => (hio2 x hx).2) hp hs
  have hel := hp.length_eq
  have hes : ∀ x ∈ es', x.wf ∧ dle 5 x.t := fun x hx => hio2 x (hp.mem_iff.1 hx)
  refine zK (qd (qb (zX E (awps_via ⟨[(49, .row 0)], [(0, .rowd 69 6 false (ftDs (onceF (l.map (headF r.head)))))]⟩ (fun Q2 K => ?_) ?_))))
  · refine qaB (sub_untag hQ) (qaB (qB (T1 := [(48, .row 7)]) (O1 := [(7, .rowd 69 6 false (ftDs es'))]) (zB E SubT.nil) (SubO.cons E SubO.nil) E E (noL' (noL hL) _)) (qaB (qaC 7 0 (noL hL _) (noL hL _)) (awps_open (l := 0) E zD (noL hL _) (fun he => ?_) (fun cap h1 h2 => ?_))))
    · have he0 : es' = [] := by cases es' with
        | nil => rfl
        | cons a l => simp [ftDs] at he
      rw [he0] at hcomp
      rw [← hcomp] at K
      refine qaj (avs := [_, _]) false E E E zD qbS E E (CompactNil_ft_ok _) E (qbX .nil) (by rintro r O' ⟨_, rfl⟩; exact frB E) (by rintro h; cases h) ?_
      rintro r2 O' ⟨rfl, rfl⟩
      exact qaB (Sub.trans (qaU (t := 49) (l := 9) 69 6 false E E) (Sub.trans (qB (T1 := [(49, .row 9)]) (O1 := [(9, .rowd 69 6 false [])]) (zB E SubT.nil) (SubO.cons E SubO.nil) E E (noL' (noL hL) _)) (Sub.trans (qaC 9 0 (noL hL _) (noL hL _)) (qB (zB E SubT.nil) (SubO.cons E SubO.nil) E E (noL' (noL hL) _))))) K
    · have hfl := ftDs_length es'
      rw [hfl] at h1 ⊢
      refine qaj (avs := [_, _]) false E E E zD qbS E E (CompactFunc_ft_ok es' (by omega) cap h1 h2 cmpF (fun a ha b hb => heads1_ok a b (hes a ha).2 (hes a ha).1 (hes b hb).1)) E (qbX (.cons E trivial E .nil)) (by rintro r O' ⟨A', _, _, _, rfl⟩; exact frB E) (by rintro h; cases h) ?_
      rintro r2 O' ⟨A', hA1, hA2, rfl, rfl⟩
      rw [hcomp] at hA2 ⊢
      have hgl := ftDs_length (onceF (l.map (headF r.head)))
      exact qaB (Sub.trans (qcm (l := 0) (cap := cap) (n := (onceF (l.map (headF r.head))).length) (ftDs (onceF (l.map (headF r.head)))) E (noL hL _) ⟨_, arr_split hA2⟩ hgl.symm hA1.symm) (qB (SubT.cons (qan E (by simp [AV.rp, clV])) SubT.nil) (SubO.cons rfl SubO.nil) rfl rfl (noL' (noL hL) _))) K
  refine zX E (zX E (qaB (qa4 (l := 0) E zD (noL hL _) E E) (zK (qo (zI hL (qh E (qh E qi)) ?_ ?_)))))
  · rfl
  exact ⟨rfl, rfl⟩
end Go.Proofs.YtpgceiijoedppaaGreat
