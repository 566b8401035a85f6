/- Part 11 of the proof: Hi, Ia, Kb, Gq, Gr, Gs, Gt, Gu, Gv, Gw, Gx, Gz. -/
import Derived.Test.YtpgceiijoedppaaGreatB10
import Derived.DeepKeys4
import Derived.Laws.StructEq
set_option linter.unusedVariables false
set_option linter.unusedSimpArgs false
set_option maxRecDepth 8000
namespace Go.Proofs.YtpgceiijoedppaaGreat
open Go
theorem Has_ok (ns : List ByteArray) (hn : ns.length ≤ 140737488351232) (s : ByteArray) : PF 55 [.dat false 1 (qbw ns), sv s] (bv (ns.any fun x => decide (x = s))) := by
 have hln := qaX ns
 refine qF Tryz.func55 E Tryz.ntmps55 zL fun c hL hQ hDD => (qd (qb (zX E (zK (qd (qd ?_)))))); refine qb (zX E (qc (qa (qv (q6 (ns.length) (fun k => k ≤ ns.length ∧ ∀ (j : Nat) (x : ByteArray), j < k → ns[j]? = some x → x ≠ s) (fun k => ⟨[(0, .dat false 1 (qbw ns)), (1, sv s), (5, iv (k : Int))], []⟩) (⟨by omega, fun j x hj => absurd hj (by omega)⟩) ?_ (fun k hk hp => ?_))))))
 ·exact zR hL (zC E (zC E (zC E SubT.nil))) SubO.nil
 refine qd (qd (qb (zX E (zX E (zA E (qu E qag E) (zA E (qj E E E E) (qc ?_))))))); refine qa (qq E (fun c0 => ?_) (fun c0 => ?_))
 ·try simp only[↓cqA,cqB]at c0
  obtain ⟨u, hu⟩ := qH (l := ns) (k := k) (by omega)
  refine qr (qa (qd (qv (qd (qb (zX E (zX E ?_))))))); refine zA E (qp E qag E E (by omega) (qcb hu)) (zA E (qN E qaf E) (zX E (zA E (qbV E E E E) (zK (qq E (fun c1 => ?_) (fun c1 => ?_))))))
  ·try simp only[↓cqA,cqB]at c1
   refine qd (qb (zX E (zK (qo (qS (qm (qm (qS (qm (zI hL (qh E qi) ?_ ?_))))))))))
   ·rfl
   refine ⟨qT ?_, rfl⟩
   exact (List.any_eq_true.2 ⟨u, List.mem_of_getElem? hu, by simp [c1]⟩).symm
  try simp only[↓cqA,cqB]at c1
  refine qr (qP (qa (qb (zX E (zA E (qJ E E E (by omega)) (zX E (qc ?_))))))); refine qa ?_; refine ⟨?_, ?_, ?_⟩
  ·omega
  ·refine ⟨by omega, fun j y hj hy => ?_⟩
   by_cases hjk : j < k
   ·exact hp.2 j y hjk hy
   ·rw [show j = k by omega, hu] at hy; cases hy; exact c1
  exact zR hL (zC E (zC E (zC E SubT.nil))) SubO.nil
 try simp only[↓cqA,cqB]at c0
 refine qQ (qn (qn (qX ?_))); refine qa (qd (qb (zX E (zK (qo (zI hL (qh E qi) ?_ ?_))))))
 ·rfl
 refine ⟨qT ?_, rfl⟩; refine (List.any_eq_false.2 fun x hx => ?_).symm
 obtain ⟨j, hj⟩ := List.getElem?_of_mem hx
 have := hp.2 j x (by have := (List.getElem?_eq_some_iff.1 hj).1; omega) hj
 simp [this]
theorem stp_eq {P : Program} {c : Ctx} {N : Nat} {o : Oper} {σ : St} {need : List Nat} {v v' : AV} {new : List (Nat × Ob)} (h : Stp P c N o σ need v new) (e : v = v') : Stp P c N o σ need v' new := e ▸ h
theorem rJoin_ok (a b : List Bd) (ha : BOk a) (hb : BOk b) : PF 105 [bdA a, bdA b] (.tup [.dat true 5 (bdDs (bothL a b)), iv (bothE a b)]) := by
 have hlen := qaR b
 have hla := qaR a
 have hla2 := ha.len
 have hlb2 := hb.len
 refine AC_leP (Post := fun r O => (bothL a b = [] ∧ r = .tup [.imm (.slice none 0 0), iv (bothE a b)] ∨ r = .tup [.dat true 5 (bdDs (bothL a b)), iv (bothE a b)]) ∧ O = []) ?_ (fun r O' h => by
  obtain ⟨⟨h1, rfl⟩ | rfl, rfl⟩ := h
  ·exact ⟨_, .tup (.cons (.nil (f := true) (k := 5)) (.cons .refl .nil)), by rw [h1]; rfl, rfl⟩
  ·exact ⟨_, .refl, rfl, rfl⟩)
 refine qF Tryz.func105 E Tryz.ntmps105 zL fun c hL hQ hDD => (qd (qb (zX E (zX E (zK (qd ?_)))))); refine qb (zX E (qc1 E E zD (qcD (avs := [_]) true E qbq E E (AC_rnE 3 77 (CopyBinds_ok 5 a (by omega) (fun x hx => qbA (ha.el x hx).2) (fun x hx => (ha.el x hx).1))) (fun _ => rfl) E) E (zX E (qc ?_))))
 refine qa (qd (qd (qd3 (qa4 (l := 77) E zD (noL hL _) E E) (qb (zX E (zK ?_)))))); refine qv (q6 (b.length) (fun k => k ≤ b.length ∧ ∀ (j : Nat) (u : Bd), j < k → b[j]? = some u → bothBad (bothX a (b.take j)) u = false) (fun k => ⟨[(1, bdA b), (6, .dat true 5 (bdDs (bothX a (b.take k)))), (7, iv (k : Int))], []⟩) (⟨by omega, fun j u hj => absurd hj (by omega)⟩) ?_ (fun k hk hp => ?_))
 ·exact zR hL (zC E (zC E (zC E SubT.nil))) SubO.nil
 obtain ⟨⟨hr, hel⟩, hln⟩ := bothX_ok ⟨ha.ris, ha.el⟩ (b.take k) (fun u hu => hb.el u (List.mem_of_mem_take hu))
 have hln2 : (b.take k).length ≤ b.length := by simp; omega
 have hlx := qaR (bothX a (b.take k))
 generalize hX : bothX a (b.take k) = X at *
 refine qd (qd (qb (zX E (zX E (zA E (qu E qO E) (zA E (qj E E E E) (qc ?_))))))); refine qa (qq E (fun c0 => ?_) (fun c0 => ?_))
 ·try simp only[↓cqA,cqB]at c0
  obtain ⟨u, hu⟩ := qH (l := b) (k := k) (by omega)
  have hum := hb.el u (List.mem_of_getElem? hu)
  have hpl := posB_le X u.name
  have hpos := posB_spec u.name X
  have hXs : bothX a (b.take (k + 1)) = qcx X u := by rw [qac hu, bothX_snoc, hX]
  have hat := atB_has u.name X
  refine qr (qa (qd (qv (qd (qb (zX E (zX E ?_))))))); refine zX E (zA E (qp E qO E E (by omega) (qbe hu)) (zA E (qA E qaG E) (zA E (qN E qaf E) ?_)))
  refine qE (avs := [_, _]) true E E E zD en_almagestref1_At E E (At1_ok' X u.name (by omega)) E E (zX E (zK (qd (qd (qb (zX E ?_)))))); refine zA E (qj E E E E) (zK (qq E (fun c1 => ?_) (fun c1 => ?_)))
  ·try simp only[↓cqA,cqB]at c1
   have hh : hasB X u.name = true := hat.1 (by omega)
   obtain ⟨v, hv, hvn, hlk⟩ : ∃ x : Bd, X[(atB u.name X).toNat]? = some x ∧ x.name = u.name ∧ lookB X u.name = some x.t := by
    rcases atB_cases u.name X with ⟨h1, _⟩ | ⟨_, i, x, h2, h3, h4, h5⟩
    ·rw [h1] at hh; cases hh
    ·exact ⟨x, by rw [h2]; exact h3, h4, h5⟩
   have hvt : lookT X u.name = v.t := by rw [lookT, hlk]; rfl
   have hvm := hel v (List.mem_of_getElem? hv)
   have hlt := (List.getElem?_eq_some_iff.1 hv).1
   have hst : qcx X u = X := by rw [qcx, if_pos hh]
   have hcz := cmpT_zero 5 v.t u.t (qbA hvm.2)
   refine qd (qd (qZ 10 mixed E E E E (qf E zD (.run E (qk (.inl E) E)) (qf E zD (.run E (qk (.inl E) E)) (qf E zD (.run E (qp E qO E E (by omega) (qbe hv))) (qf E zD (.run E (qA E qaZ E)) (qf E zD (.run E (qC E qw E E)) (qf E zD (.run E (qk (.inl E) E)) (qf E zD (.run E (qk (.inl E) E)) (qf E zD (.run E (qp E qO E E (by omega) (qbe hu))) (qf E zD (.run E (qA E qaZ E)) (qf E zD (.run E (qC E qw E E)) ?_))))))))))))
   refine qak ⟨rfl, rfl, ?_⟩; refine qE (avs := [_, _]) true E E E zD qbh E E (EqTerm_ok 5 v.t u.t (qbA hvm.2) hvm.1.2 hum.1.2) E E (zA E (qal E E) (zK (qq E (fun c2 => ?_) (fun c2 => ?_))))
   ·try simp only[↓cqA,cqB]at c2
    refine qd (qb (zX E (zX E (zK (qo (qm (qm (qS (qm (qm (qS (qm (zI hL (qh E (qh E qi)) ?_ ?_)))))))))))))
    ·rfl
    have hbk : bothOk a b = false := by
     have hne : ¬ cmpT 5 v.t u.t = 0 := fun h => by have := hcz.1 h; simp [this] at c2
     rw [bothOk_take b a k hp.2, hX, drop_get hu, bothOk]
     have : bothBad X u = true := by simp [bothBad, hvt, hh, hne]
     rw [this]; rfl
    exact ⟨.inl ⟨by rw [bothL, if_neg (by simp [hbk])], by rw [bothE, if_neg (by simp [hbk])]; rfl⟩, rfl⟩
   try simp only[↓cqA,cqB]at c2
   have hbad : bothBad X u = false := by
    have h1 : eqT 5 v.t u.t = true := by simpa using c2
    simp [bothBad, hvt, hcz.2 h1]
   refine qr (qa (qQ (qn (qX ?_)))); refine qa (qb (zX E (zA E (qJ E E E (by omega)) (zX E (zK ?_))))); refine ⟨?_, ?_, ?_⟩
   ·omega
   ·refine ⟨by omega, fun j w hj hw => ?_⟩
    by_cases hjk : j < k
    ·exact hp.2 j w hjk hw
    ·rw [show j = k by omega] at hw ⊢
     rw [hu] at hw; cases hw
     rw [hX]; exact hbad
   exact zR hL (zC E (SubT.cons (qan E (by rw [hXs, hst]; try (rw [← hsp]; exact congrArg (AV.dat true 5) (show bdDs (X.take s) ++ [bdD u] ++ bdDs (X.drop s) = bdDs (ins X s u) by simp [ins, bdDs])))) (zC E SubT.nil))) SubO.nil
  try simp only[↓cqA,cqB]at c1
  have hh : hasB X u.name = false := by
   cases hc : hasB X u.name with
   | false => rfl
   | true => have := hat.2 hc; omega
  have hbad : bothBad X u = false := by simp [bothBad, hh]
  have hst : qcx X u = ins X (posB X u.name) u := by rw [qcx, if_neg (by simp [hh])]
  refine qr (qa (qd (qb (zX E (zK (qd ?_)))))); refine qv (q6 (posB X u.name) (fun s => s ≤ posB X u.name) (fun s => ⟨[(1, bdA b), (6, .dat true 5 (bdDs X)), (7, iv (k : Int)), (8, iv (s : Int))], []⟩) (by omega) ?_ (fun s hs hps => ?_))
  ·exact zR hL (zC E (zC E (zC E (zC E SubT.nil)))) SubO.nil
  refine qd (qd ?_)
  rcases Bool.eq_false_or_eq_true (decide ((s : Int) < ((bdDs X).length : Int))) with l41 | l41
  ·have m41 := l41
   try simp only[↓cqA,cqB]at m41
   obtain ⟨v, hv⟩ := qH (l := X) (k := s) (by omega)
   have hpt := fun h => hpos.1 s v h hv
   refine qZ 15 mixed E E E E (qf E zD (.run E (qk (.inl E) E)) (qf E zD (.run E (qk (.inl E) E)) (qf E zD (.run E (qu E qO E)) (qf E zD (.run E (qj (r := .bool true) E E E (congrArg (fun b => some (Value.bool b)) l41))) (qf E zD (.run E (qk (.inl E) E)) (qf E zD (.want E E E zD (qk (.inl E) E)) (qf E zD (.want E E E zD (qk (.inl E) E)) (qf E zD (.want E E E zD (qp E qO E E (by omega) (qbe hv))) ?_))))))))
   refine qf E zD (.want E E E zD (qA E qaG E)) (qf E zD (.want E E E zD (qN E qaf E)) (qf E zD (.want E E E zD (qk (.inl E) E)) (qf E zD (.want E E E zD (qk (.inl E) E)) (qf E zD (.want E E E zD (qp E qO E E (by omega) (qbe hu))) ?_))))
   refine qf E zD (.want E E E zD (qA E qaG E)) (qf E zD (.want E E E zD (qN E qaf E)) (qak ⟨rfl, rfl, ?_⟩)); refine zZ E (qbV E E E E) (zA E (qg E E E) (zK (qq E (fun c3 => ?_) (fun c3 => ?_))))
   ·try simp only[↓cqA,cqB]at c3
    have hsp : s < posB X u.name := by
     rcases Nat.lt_or_ge s (posB X u.name) with h | h
     ·exact h
     ·have h2 : posB X u.name = s := by omega
      have h3 := hpos.2 v (by rw [h2]; exact hv)
      rw [show ltS v.name u.name = true from c3] at h3; cases h3
    refine qr (qa (qv (qb (zX E (zA E (qJ E E E (by omega)) (zX E (qc ?_))))))); refine qP (qa ?_); refine ⟨?_, ?_, ?_⟩
    ·omega
    ·omega
    exact zR hL (zC E (zC E (zC E (zC E SubT.nil)))) SubO.nil
   try simp only[↓cqA,cqB]at c3
   have hsp : s = posB X u.name := by
    rcases Nat.lt_or_ge s (posB X u.name) with h | h
    ·have h3 := hpt h
     rw [show ltS v.name u.name = false from c3] at h3; cases h3
    ·omega
   refine qQ (qn (qn (qX ?_))); refine qa ?_
   have htl : (bdDs (X.take s)).length = s := by rw [qaR]; simp; omega
   have hdl : (bdDs (X.drop s)).length ≤ X.length := by rw [qaR]; simp
   refine qZ 14 mixed E E E E (qf E zD (.run E (qk (.inl E) E)) (qf E zD (.run E (qk (.inl E) E)) (qf E zD (.run E (stp_eq (v' := .dat true 5 (bdDs (X.take s))) (stp_sldH E qO E E (by omega) (by omega)) (by simp [bdDs]))) ?_)))
   refine MGo_u E E zD (qcD (avs := [_]) true E qbq E E (AC_rnE 3 77 (CopyBinds_ok 5 (X.take s) (by simp; omega) (fun x hx => qbA (hel x (List.mem_of_mem_take hx)).2) (fun x hx => (hel x (List.mem_of_mem_take hx)).1))) (fun _ => rfl) E) ?_; refine qf E zD (.run E (qk (.inl E) E)) ?_; refine qf E zD (.run E (qk (.inl E) E)) ?_; refine qf E zD (.run E (qp E qO E E (by omega) (qbe hu))) ?_
   refine qf E zD (.run E (qC E qaT E E)) ?_; refine qf E zD (.run E (qY (avs := [_]) true E qcF E E (CopyBind_ok 5 u (qbA hum.2) hum.1) (fun _ => rfl) E)) ?_; refine MGo_c1 E zD (.run E (qam 66 E qO qby E E zD zD zD E E E)) ?_; refine MGo_u E E zD (qa5 67 qdi E E E E E E E E (noL hL _) (by rw [htl]; omega) E) ?_
   refine qf E zD (.run E (qk (.inl E) E)) ?_; refine qf E zD (.run E (qk (.inl E) E)) ?_; refine qf E zD (.run E (stp_eq (v' := .dat true 5 (bdDs (X.drop s))) (stp_sldL E qO E E (by omega) (by omega)) (by simp [bdDs]))) ?_; refine qak ⟨rfl, rfl, ?_⟩; refine qc1 E E zD (qdM 71 qdi E E E E E (noL hL _) (fun d hd => by obtain ⟨x, _, rfl⟩ := List.mem_map.1 hd; rfl) (by simp only [List.length_append, List.length_singleton, htl]; omega) E) E ?_
   refine qaB (qa4 (l := 71) E zD (noL hL _) E E) (zX E (qc (qP (qa (qb (zX E (zA E (qJ E E E (by omega)) ?_))))))); refine zX E (zK ?_); refine ⟨?_, ?_, ?_⟩
   ·omega
   ·refine ⟨by omega, fun j w hj hw => ?_⟩
    by_cases hjk : j < k
    ·exact hp.2 j w hjk hw
    ·rw [show j = k by omega] at hw ⊢
     rw [hu] at hw; cases hw
     rw [hX]; exact hbad
   exact zR hL (zC E (SubT.cons (qan E (by rw [hXs, hst]; try (rw [← hsp]; exact congrArg (AV.dat true 5) (show bdDs (X.take s) ++ [bdD u] ++ bdDs (X.drop s) = bdDs (ins X s u) by simp [ins, bdDs])))) (zC E SubT.nil))) SubO.nil
  have m41 := l41
  try simp only[↓cqA,cqB]at m41
  have hsp : s = posB X u.name := by omega
  refine qZ 15 mixed E E E E (qf E zD (.run E (qk (.inl E) E)) (qf E zD (.run E (qk (.inl E) E)) (qf E zD (.run E (qu E qO E)) (qf E zD (.run E (qj (r := .bool false) E E E (congrArg (fun b => some (Value.bool b)) l41))) (qf E zD (.run E (qk (.inl E) E)) (qf E zD (.skip E E E zD zD) (qf E zD (.skip E E E zD zD) ?_)))))))
  refine qf E zD (.skip E E E zD zD) (qf E zD (.skip E E E zD zD) (qf E zD (.skip E E E zD zD) (qf E zD (.skip E E E zD zD) (qf E zD (.skip E E E zD zD) ?_))))
  refine qf E zD (.skip E E E zD zD) (qf E zD (.skip E E E zD zD) (qf E zD (.skip E E E zD zD) (qak ⟨rfl, rfl, ?_⟩))); refine zY E (zA E (qg E E E) (zK (qab E (qQ (qn (qn (qX ?_))))))); refine qa ?_
  have htl : (bdDs (X.take s)).length = s := by rw [qaR]; simp; omega
  have hdl : (bdDs (X.drop s)).length ≤ X.length := by rw [qaR]; simp
  refine qZ 14 mixed E E E E (qf E zD (.run E (qk (.inl E) E)) (qf E zD (.run E (qk (.inl E) E)) (qf E zD (.run E (stp_eq (v' := .dat true 5 (bdDs (X.take s))) (stp_sldH E qO E E (by omega) (by omega)) (by simp [bdDs]))) ?_)))
  refine MGo_u E E zD (qcD (avs := [_]) true E qbq E E (AC_rnE 3 77 (CopyBinds_ok 5 (X.take s) (by simp; omega) (fun x hx => qbA (hel x (List.mem_of_mem_take hx)).2) (fun x hx => (hel x (List.mem_of_mem_take hx)).1))) (fun _ => rfl) E) ?_; refine qf E zD (.run E (qk (.inl E) E)) ?_; refine qf E zD (.run E (qk (.inl E) E)) ?_; refine qf E zD (.run E (qp E qO E E (by omega) (qbe hu))) ?_
  refine qf E zD (.run E (qC E qaT E E)) ?_; refine qf E zD (.run E (qY (avs := [_]) true E qcF E E (CopyBind_ok 5 u (qbA hum.2) hum.1) (fun _ => rfl) E)) ?_; refine MGo_c1 E zD (.run E (qam 66 E qO qby E E zD zD zD E E E)) ?_; refine MGo_u E E zD (qa5 67 qdi E E E E E E E E (noL hL _) (by rw [htl]; omega) E) ?_
  refine qf E zD (.run E (qk (.inl E) E)) ?_; refine qf E zD (.run E (qk (.inl E) E)) ?_; refine qf E zD (.run E (stp_eq (v' := .dat true 5 (bdDs (X.drop s))) (stp_sldL E qO E E (by omega) (by omega)) (by simp [bdDs]))) ?_; refine qak ⟨rfl, rfl, ?_⟩; refine qc1 E E zD (qdM 71 qdi E E E E E (noL hL _) (fun d hd => by obtain ⟨x, _, rfl⟩ := List.mem_map.1 hd; rfl) (by simp only [List.length_append, List.length_singleton, htl]; omega) E) E ?_
  refine qaB (qa4 (l := 71) E zD (noL hL _) E E) (zX E (qc (qP (qa (qb (zX E (zA E (qJ E E E (by omega)) ?_))))))); refine zX E (zK ?_); refine ⟨?_, ?_, ?_⟩
  ·omega
  ·refine ⟨by omega, fun j w hj hw => ?_⟩
   by_cases hjk : j < k
   ·exact hp.2 j w hjk hw
   ·rw [show j = k by omega] at hw ⊢
    rw [hu] at hw; cases hw
    rw [hX]; exact hbad
  exact zR hL (zC E (SubT.cons (qan E (by rw [hXs, hst]; try (rw [← hsp]; exact congrArg (AV.dat true 5) (show bdDs (X.take s) ++ [bdD u] ++ bdDs (X.drop s) = bdDs (ins X s u) by simp [ins, bdDs])))) (zC E SubT.nil))) SubO.nil
 try simp only[↓cqA,cqB]at c0
 have hk2 : b.take k = b := List.take_of_length_le (by omega)
 rw [hk2] at hX
 have hgo : bothOk a b = true := by rw [bothOk_take b a k hp.2, List.drop_eq_nil_of_le (by omega)]; rfl
 refine qQ (qn (qn (qX ?_))); refine qa (qd (qd (qb (zX E (zA E (qu E qO E) (zA E (qj E E E E) (qc ?_))))))); refine qa (qq E (fun c4 => ?_) (fun c4 => ?_))
 ·try simp only[↓cqA,cqB]at c4
  refine qd (qb (zX E (zX E (zK (qo (qm (zI hL (qh E (qh E qi)) ?_ ?_)))))))
  ·rfl
  exact ⟨.inl ⟨by rw [bothL, if_neg (by rw [hX]; omega)], by rw [bothE, if_pos hgo, if_neg (by rw [hX]; omega)]; rfl⟩, rfl⟩
 try simp only[↓cqA,cqB]at c4
 refine qr (qa (qd (qb (zX E (zX E (zX E (qc ?_))))))); refine qa (qo (zI hL (qh E (qh E qi)) ?_ ?_))
 ·rfl
 exact ⟨.inr (by rw [bothL, bothE, if_pos ⟨hgo, by rw [hX]; omega⟩, if_pos hgo, if_pos (by rw [hX]; omega), hX]; rfl), rfl⟩
def dpA (f : Tm → Int) (l : List Tm) : Int := l.foldl (fun n u => max n (f u)) 0
def dpT : Nat → Tm → Int
 | 0, _ => 0
 | d + 1, t => dpA (dpT d) t.args + 1
theorem dpA_snoc (f : Tm → Int) {l : List Tm} {k : Nat} {u : Tm} (hu : l[k]? = some u) : dpA f (l.take (k + 1)) = max (dpA f (l.take k)) (f u) := by
 rw [qac hu, dpA, List.foldl_append]; rfl
theorem foldmax_le (f : Tm → Int) (m : Int) : ∀ (l : List Tm) (n : Int), 0 ≤ n → n ≤ m → (∀ u ∈ l, 0 ≤ f u ∧ f u ≤ m) → 0 ≤ l.foldl (fun n u => max n (f u)) n ∧ l.foldl (fun n u => max n (f u)) n ≤ m
  | [], n, h0, hn, _ => ⟨h0, hn⟩
  | a :: l, n, h0, hn, h => by
    have h1 := h a (by simp)
    exact foldmax_le f m l (max n (f a)) (by omega) (by omega) fun u hu => h u (by simp [hu])
theorem dpT_range : ∀ (d : Nat) (t : Tm), 0 ≤ dpT d t ∧ dpT d t ≤ d
  | 0, t => by simp [dpT]
  | d + 1, t => by
    have := foldmax_le (dpT d) d t.args 0 (by omega) (by omega) fun u _ => dpT_range d u
    simp only [dpT, dpA]; omega
theorem dpA_range (d : Nat) (l : List Tm) : 0 ≤ dpA (dpT d) l ∧ dpA (dpT d) l ≤ d := foldmax_le (dpT d) d l 0 (by omega) (by omega) fun u _ => dpT_range d u
theorem deep_ok : ∀ (d : Nat) (t : Tm), d ≤ 100 → dle d t → t.wf → PF 278 [tmA false t] (iv (dpT d t))
  | 0, t, _, h, _ => h.elim
  | d + 1, t, h9, h, ht => by
    have hlen := qaJ t.args
    have hal := ht.2.2.2.1
    refine qF Tryz.func278 E Tryz.ntmps278 zL fun c hL hQ hDD => (qd (qb (qy E E zD (qaa 1 E E E) E (zX E (zK (qd ?_)))))); refine qb (zX E (zK (qd (qd (qb (zA E (qe E q8 E) (zA E (ql E q7 E E E E E) (zA E (qu E qI E) (zX E (zK (qv (q6 (t.args.length) (fun k => k ≤ t.args.length) (fun k => ⟨[(3, iv (dpA (dpT d) (t.args.take k))), (7, .dat false 4 (tmDs t.args)), (8, iv (tmDs t.args).length), (9, iv (k : Int))], []⟩) (by omega) ?_ (fun k hk hp => ?_)))))))))))))
    · exact zR hL (zC E (zC E (zC E (zC E SubT.nil)))) SubO.nil
    have hdr := dpA_range d (t.args.take k)
    refine qd (qb (zA E (qj E E E E) (zK (qd (qq E (fun c0 => ?_) (fun c0 => ?_))))))
    · try simp only[↓cqA,cqB]at c0
      obtain ⟨u, hu⟩ := qH (l := t.args) (k := k) (by omega)
      have hum := List.mem_of_getElem? hu
      have hmx := dpA_snoc (dpT d) hu
      refine qr (qa (qd (qv (qd (qb (zA E (qp E qI E E (by omega) (qbv hu)) (zA E (qC E qw E E) (qy E E zD (qaD 5 E qaw E) E (qae E E E qw E E E E E E E E E (zK (qb (zX E (zA E (qK E qw E E E E) ?_)))))))))))))
      refine qE (avs := [_]) true E E E zD en_term_deep E E (deep_ok d u (by omega) (h u hum) (Tm.wfs_mem ht.2.2.2.2 hum)) E E (zA E (stp_max E E E) (zX E (qc (qP (qa (qb (zA E (qJ E E E (by omega)) ?_))))))); refine zX E (zK ?_); refine ⟨?_, ?_, ?_⟩
      · omega
      · omega
      exact zR hL (SubT.cons (qan E (by exact qL (by rw [hmx]; split <;> omega))) (zC E (zC E (zC E SubT.nil)))) SubO.nil
    try simp only[↓cqA,cqB]at c0
    refine qQ (qn (qn (qX ?_))); refine qa (qd (qb (zX E (zA E (qJ E E E (by omega)) (zX E (zK ?_)))))); refine qo (zI hL (qh E qi) ?_ ?_)
    · rfl
    refine ⟨qa2 ?_, rfl⟩
    rw [List.take_of_length_le (by omega)]; rfl
theorem Depth_ok : ∀ (d : Nat) (t : Tm), d ≤ 100 → dle d t → t.wf → PF 264 [tmA false t] (iv (dpT d t))
  | 0, t, _, h, _ => h.elim
  | d + 1, t, h9, h, ht => by
    have hlen := qaJ t.args
    have hal := ht.2.2.2.1
    refine qF Tryz.func264 E Tryz.ntmps264 zL fun c hL hQ hDD => (qd (qb (qy E E zD (qaa 1 E E E) E (zX E (zK (qd ?_)))))); refine qb ?_
    refine zX E (zK (qd (qd (qb (zX E (qc ?_)))))); refine qa (qv (q6 (t.args.length) (fun k => k ≤ t.args.length) (fun k => ⟨[(1, .ptr 1 0), (3, iv (dpA (dpT d) (t.args.take k))), (4, iv (k : Int))], [(1, .box (lift false (tmD t)))]⟩) (by omega) ?_ (fun k hk hp => ?_)))
    · exact zR hL (zC E (zC E (zC E SubT.nil))) (SubO.cons (qR E (by rfl)) SubO.nil)
    have hdr := dpA_range d (t.args.take k)
    refine qd (qd (qb (zX E (zA E (qe E q8 E) (zA E (ql E q7 E E E E E) (zA E (qu E qI E) (zA E (qj E E E E) ?_))))))); refine zK (qq E (fun c0 => ?_) (fun c0 => ?_))
    · try simp only[↓cqA,cqB]at c0
      obtain ⟨u, hu⟩ := qH (l := t.args) (k := k) (by omega)
      have hum := List.mem_of_getElem? hu
      have hmx := dpA_snoc (dpT d) hu
      refine qr (qa (qd (qv (qb (zX E (zA E (qe E q8 E) (zA E (ql E q7 E E E E E) ?_))))))); refine zX E (zA E (qp E qI E E (by omega) (qbv hu)) (zA E (qC E qw E E) (qE (avs := [_]) true E E E zD en_almagestref1_Depth E E (Depth_ok d u (by omega) (h u hum) (Tm.wfs_mem ht.2.2.2.2 hum)) E E (zA E (stp_max E E E) (zX E (qc (qP (qa (qb ?_)))))))))
      refine zX E (zA E (qJ E E E (by omega)) (zX E (zK ?_))); refine ⟨?_, ?_, ?_⟩
      · omega
      · omega
      exact zR hL (zC E (SubT.cons (qan E (by exact qL (by rw [hmx]; split <;> omega))) (zC E SubT.nil))) (SubO.cons (qR E (by rfl)) SubO.nil)
    try simp only[↓cqA,cqB]at c0
    refine qQ (qn (qn (qX ?_))); refine qa (qd (qb (zX E (zA E (qJ E E E (by omega)) (zX E (zK ?_)))))); refine qo (zI hL (qh E qi) ?_ ?_)
    · rfl
    refine ⟨qa2 ?_, rfl⟩
    rw [List.take_of_length_le (by omega)]; rfl
def flatB (t : Tm) : Bool := decide (t.kind = 3) && decide (dpT 5 t ≤ 2)
theorem Flat_ok (t : Tm) (h : dle 5 t) (ht : t.wf) : PF 231 [tmA false t] (bv (flatB t)) := by
 refine qF Tryz.func231 E Tryz.ntmps231 zL fun c hL hQ hDD => (qd (qb (qy E E zD (qaa 1 E E E) E (zX E (zK (qd ?_)))))); refine qb (zA E (qe E qar E) (zA E (ql E qU E E E E E) (zA E (qj E E E E) (zX E (qt 6 E (fun g6 => ?_) (fun g6 => ?_))))))
 ·try simp only[↓cqA,cqB]at g6
  refine zZ E (qK E qw E E E E) (zZ E (qY (avs := [_]) true E en_term_deep E E (deep_ok 5 t (by omega) h ht) (fun _ => rfl) E) (zZ E (qj E E E E) (zA E (qg E E E) (zX E (zK (qo (zI hL (qh E qi) ?_ ?_)))))))
  ·rfl
  refine ⟨qT ?_, rfl⟩
  simp_all [flatB]
 try simp only[↓cqA,cqB]at g6
 refine zY E (zY E (zY E (zA E (qg E E E) (zX E (zK (qo (zI hL (qh E qi) ?_ ?_)))))))
 ·rfl
 refine ⟨qT ?_, rfl⟩
 simp_all [flatB]
theorem rAtom_ok (t : Tm) (h : dle 5 t) (ht : t.wf) : PF 214 [tmA false t] (bv (flatB t)) := by
 refine qF Tryz.func214 E Tryz.ntmps214 zL fun c hL hQ hDD => (qd (qb (qy E E zD (qaa 1 E E E) E (zX E (zK (qd ?_)))))); refine qb (zA E (qe E qar E) (zA E (ql E qU E E E E E) (zA E (qj E E E E) (zX E (qt 6 E (fun g6 => ?_) (fun g6 => ?_))))))
 ·try simp only[↓cqA,cqB]at g6
  refine zZ E (qK E qw E E E E) (zZ E (qY (avs := [_]) true E en_almagestref1_Depth E E (Depth_ok 5 t (by omega) h ht) (fun _ => rfl) E) (zZ E (qj E E E E) (zA E (qg E E E) (zX E (zK (qo (zI hL (qh E qi) ?_ ?_)))))))
  ·rfl
  refine ⟨qT ?_, rfl⟩
  simp_all [flatB]
 try simp only[↓cqA,cqB]at g6
 refine zY E (zY E (zY E (zA E (qg E E E) (zX E (zK (qo (zI hL (qh E qi) ?_ ?_)))))))
 ·rfl
 refine ⟨qT ?_, rfl⟩
 simp_all [flatB]
theorem showAtom_ok (t : Tm) (ht : t.wf) : PF 168 [tmA false t] (bv (mayT t && flatB t)) := by
 refine qF Tryz.func168 E Tryz.ntmps168 zL fun c hL hQ hDD => (qd (qb (qy E E zD (qaa 1 E E E) E (zX E (zK (qd ?_)))))); refine qb (zA E (qK E qw E E E E) (qE (avs := [_]) true E E E zD qcL E E (May_ok t ht) E E (zX E (qt 5 E (fun g5 => ?_) (fun g5 => ?_)))))
 ·try simp only[↓cqA,cqB]at g5
  refine zZ E (qK E qw E E E E) (zZ E (qY (avs := [_]) true E en_term_Flat E E (Flat_ok t (mayT_dle (by assumption)).1 ht) (fun _ => rfl) E) (zA E (qg E E E) (zX E (zK (qo (zI hL (qh E qi) ?_ ?_))))))
  ·rfl
  refine ⟨qT ?_, rfl⟩
  simp_all
 try simp only[↓cqA,cqB]at g5
 refine zY E (zY E (zA E (qg E E E) (zX E (zK (qo (zI hL (qh E qi) ?_ ?_))))))
 ·rfl
 refine ⟨qT ?_, rfl⟩
 simp_all
def qbD (t : Tm) : Bool := decide (t.kind = 0) && decide (t.name = ⟨#[]⟩) && decide (t.n = 0) && decide (t.args.length = 0)
theorem showNone_ok (t : Tm) (ht : t.wf) : PF 169 [tmA false t] (bv (qbD t)) := by
 have hlen := qaJ t.args
 refine qF Tryz.func169 E Tryz.ntmps169 zL fun c hL hQ hDD => (qd (qb (qy E E zD (qaa 1 E E E) E (zX E (zK (qd ?_)))))); refine qb (zA E (qe E qar E) (zA E (ql E qU E E E E E) (zA E (qj E E E E) (zX E (qt 6 E (fun g6 => ?_) (fun g6 => ?_))))))
 ·try simp only[↓cqA,cqB]at g6
  refine zZ E (qe E qav E) (zZ E (ql E qaf E E E E E) (zZ E (qbV E E E E) (zA E (qg E E E) (zX E (qt 11 E (fun g11 => ?_) (fun g11 => ?_))))))
  ·try simp only[↓cqA,cqB]at g11
   refine zZ E (qe E qbc E) (zZ E (ql E qU E E E E E) (zZ E (qj E E E E) (zA E (qg E E E) (zX E (qt 16 E (fun g16 => ?_) (fun g16 => ?_))))))
   ·try simp only[↓cqA,cqB]at g16
    refine zZ E (qe E q8 E) (zZ E (ql E q7 E E E E E) (zZ E (qu E qI E) (zZ E (qj E E E E) (zA E (qg E E E) (zX E (zK ?_)))))); refine qo (zI hL (qh E qi) ?_ ?_)
    ·rfl
    refine ⟨qT ?_, rfl⟩
    first | (simp_all [qbD]; done) | (simp_all [qbD]; cases t.args <;> simp <;> omega)
   try simp only[↓cqA,cqB]at g16
   refine zY E (zY E (zY E (zY E (zA E (qg E E E) (zX E (zK ?_)))))); refine qo (zI hL (qh E qi) ?_ ?_)
   ·rfl
   refine ⟨qT ?_, rfl⟩
   first | (simp_all [qbD]; done) | (simp_all [qbD]; cases t.args <;> simp <;> omega)
  try simp only[↓cqA,cqB]at g11
  refine zY E (zY E (zY E (zA E (qg E E E) (zX E (zY E (zY E (zY E (zY E (zA E (qg E E E) (zX E (zK (qo (zI hL (qh E qi) ?_ ?_)))))))))))))
  ·rfl
  refine ⟨qT ?_, rfl⟩
  first | (simp_all [qbD]; done) | (simp_all [qbD]; cases t.args <;> simp <;> omega)
 try simp only[↓cqA,cqB]at g6
 refine zY E (zY E (zY E (zA E (qg E E E) (zX E (zY E (zY E (zY E (zA E (qg E E E) (zX E (zY E (zY E (zY E (zY E (zA E (qg E E E) (zX E (zK (qo (zI hL (qh E qi) ?_ ?_))))))))))))))))))
 ·rfl
 refine ⟨qT ?_, rfl⟩
 first | (simp_all [qbD]; done) | (simp_all [qbD]; cases t.args <;> simp <;> omega)
def cmpsB (g : Gd) : Bool := decide (1 ≤ g.kind) && decide (g.kind ≤ 4) && mayT g.l && mayT g.r
theorem qdb (g : Gd) (hg : g.wf) : PF 170 [.agg (lift false (gdD g))] (bv (cmpsB g)) := by
 have h1 := hg.2.1
 have h2 := hg.2.2
 refine qF Tryz.func170 E Tryz.ntmps170 zL fun c hL hQ hDD => (qd (qb (qy E E zD (qaa 1 E E E) E (zX E (zK (qd ?_)))))); refine qb (zA E (qe E qb8 E) (zA E (ql E qU E E E E E) (zA E (qj E E E E) (zX E (qt 6 E (fun g6 => ?_) (fun g6 => ?_))))))
 ·try simp only[↓cqA,cqB]at g6
  refine zZ E (qe E qb8 E) (zZ E (ql E qU E E E E E) (zZ E (qj E E E E) (zA E (qg E E E) (zX E (qt 11 E (fun g11 => ?_) (fun g11 => ?_))))))
  ·try simp only[↓cqA,cqB]at g11
   refine zZ E (qe E qb7 E) (zZ E (ql E qw E E E E E) (zZ E (qY (avs := [_]) true E qcL E E (May_ok g.l h1) (fun _ => rfl) E) (zA E (qg E E E) (zX E (qt 16 E (fun g16 => ?_) (fun g16 => ?_))))))
   ·try simp only[↓cqA,cqB]at g16
    refine zZ E (qe E qcA E) (zZ E (ql E qw E E E E E) (zZ E (qY (avs := [_]) true E qcL E E (May_ok g.r h2) (fun _ => rfl) E) (zA E (qg E E E) (zX E (zK (qo (zI hL (qh E qi) ?_ ?_)))))))
    ·rfl
    refine ⟨qT ?_, rfl⟩
    simp_all [cmpsB]
    try omega
   try simp only[↓cqA,cqB]at g16
   refine zY E (zY E (zY E (zA E (qg E E E) (zX E (zK (qo (zI hL (qh E qi) ?_ ?_)))))))
   ·rfl
   refine ⟨qT ?_, rfl⟩
   simp_all [cmpsB]
   try omega
  try simp only[↓cqA,cqB]at g11
  refine zY E (zY E (zY E (zA E (qg E E E) (zX E (zY E (zY E (zY E (zA E (qg E E E) (zX E (zK (qo (zI hL (qh E qi) ?_ ?_))))))))))))
  ·rfl
  refine ⟨qT ?_, rfl⟩
  simp_all [cmpsB]
  try omega
 try simp only[↓cqA,cqB]at g6
 refine zY E (zY E (zY E (zA E (qg E E E) (zX E (zY E (zY E (zY E (zA E (qg E E E) (zX E (zY E (zY E (zY E (zA E (qg E E E) (zX E (zK (qo (zI hL (qh E qi) ?_ ?_)))))))))))))))))
 ·rfl
 refine ⟨qT ?_, rfl⟩
 simp_all [cmpsB]
 try omega
def okG (g : Gd) : Bool := cmpsB g || ((decide (g.kind = 5) || decide (g.kind = 6)) && (mayT g.l && flatB g.l) && qbD g.r)
theorem showGuards1_ok (g : Gd) (hg : g.wf) : PF 167 [.agg (lift false (gdD g))] (bv (!(okG g))) := by
 have h1 := hg.2.1
 have h2 := hg.2.2
 refine qF Tryz.func167 E Tryz.ntmps167 zL fun c hL hQ hDD => (qd (qb (qy E E zD (qaa 1 E E E) E (zX E (zK (qd ?_)))))); refine qb (zA E (qe E qb8 E) (zA E (ql E qU E E E E E) (zA E (qj E E E E) (zX E (qt 7 E (fun g7 => ?_) (fun g7 => ?_))))))
 ·try simp only[↓cqA,cqB]at g7
  refine zY E (zY E (zY E (zA E (qg E E E) (zX E (zZ E (qe E qb7 E) (zZ E (ql E qw E E E E E) (zZ E (qY (avs := [_]) true E en_show_atom E E (showAtom_ok g.l h1) (fun _ => rfl) E) (zA E (qg E E E) (zX E (qt 17 E (fun g17 => ?_) (fun g17 => ?_)))))))))))
  ·try simp only[↓cqA,cqB]at g17
   refine zZ E (qe E qcA E) (zZ E (ql E qw E E E E E) (zZ E (qY (avs := [_]) true E en_show_none E E (showNone_ok g.r h2) (fun _ => rfl) E) (zA E (qg E E E) (zX E (zK (qd ?_)))))); refine qb (zA E (qK E qcl E E E E) (qE (avs := [_]) true E E E zD qcS E E (qdb g hg) E E (zA E (qal E E) (zX E (qt 25 E (fun g25 => ?_) (fun g25 => ?_))))))
   ·try simp only[↓cqA,cqB]at g25
    refine zZ E (qk (.inl E) E) (zZ E (qal E E) (zA E (qg E E E) (zX E (zK (qo (zI hL (qh E qi) ?_ ?_))))))
    ·rfl
    refine ⟨qT ?_, rfl⟩
    first | (simp_all [okG]; done) | (cases hm : mayT g.l <;> cases hf : flatB g.l <;> simp_all [okG])
   try simp only[↓cqA,cqB]at g25
   refine zY E (zY E (zA E (qg E E E) (zX E (zK (qo (zI hL (qh E qi) ?_ ?_))))))
   ·rfl
   refine ⟨qT ?_, rfl⟩
   first | (simp_all [okG]; done) | (cases hm : mayT g.l <;> cases hf : flatB g.l <;> simp_all [okG])
  try simp only[↓cqA,cqB]at g17
  refine zY E (zY E (zY E (zA E (qg E E E) (zX E (zK (qd ?_)))))); refine qb (zA E (qK E qcl E E E E) (qE (avs := [_]) true E E E zD qcS E E (qdb g hg) E E (zA E (qal E E) (zX E (qt 25 E (fun g25 => ?_) (fun g25 => ?_))))))
  ·try simp only[↓cqA,cqB]at g25
   refine zZ E (qk (.inl E) E) (zZ E (qal E E) (zA E (qg E E E) (zX E (zK (qo (zI hL (qh E qi) ?_ ?_))))))
   ·rfl
   refine ⟨qT ?_, rfl⟩
   first | (simp_all [okG]; done) | (cases hm : mayT g.l <;> cases hf : flatB g.l <;> simp_all [okG])
  try simp only[↓cqA,cqB]at g25
  refine zY E (zY E (zA E (qg E E E) (zX E (zK (qo (zI hL (qh E qi) ?_ ?_))))))
  ·rfl
  refine ⟨qT ?_, rfl⟩
  first | (simp_all [okG]; done) | (cases hm : mayT g.l <;> cases hf : flatB g.l <;> simp_all [okG])
 try simp only[↓cqA,cqB]at g7
 refine zZ E (qe E qb8 E) (zZ E (ql E qU E E E E E) (zZ E (qj E E E E) (zA E (qg E E E) (zX E (qt 12 E (fun g12 => ?_) (fun g12 => ?_))))))
 ·try simp only[↓cqA,cqB]at g12
  refine zZ E (qe E qb7 E) (zZ E (ql E qw E E E E E) (zZ E (qY (avs := [_]) true E en_show_atom E E (showAtom_ok g.l h1) (fun _ => rfl) E) (zA E (qg E E E) (zX E (qt 17 E (fun g17 => ?_) (fun g17 => ?_))))))
  ·try simp only[↓cqA,cqB]at g17
   refine zZ E (qe E qcA E) (zZ E (ql E qw E E E E E) (zZ E (qY (avs := [_]) true E en_show_none E E (showNone_ok g.r h2) (fun _ => rfl) E) (zA E (qg E E E) (zX E (zK (qd ?_)))))); refine qb (zA E (qK E qcl E E E E) (qE (avs := [_]) true E E E zD qcS E E (qdb g hg) E E (zA E (qal E E) (zX E (qt 25 E (fun g25 => ?_) (fun g25 => ?_))))))
   ·try simp only[↓cqA,cqB]at g25
    refine zZ E (qk (.inl E) E) (zZ E (qal E E) (zA E (qg E E E) (zX E (zK (qo (zI hL (qh E qi) ?_ ?_))))))
    ·rfl
    refine ⟨qT ?_, rfl⟩
    first | (simp_all [okG]; done) | (cases hm : mayT g.l <;> cases hf : flatB g.l <;> simp_all [okG])
   try simp only[↓cqA,cqB]at g25
   refine zY E (zY E (zA E (qg E E E) (zX E (zK (qo (zI hL (qh E qi) ?_ ?_))))))
   ·rfl
   refine ⟨qT ?_, rfl⟩
   first | (simp_all [okG]; done) | (cases hm : mayT g.l <;> cases hf : flatB g.l <;> simp_all [okG])
  try simp only[↓cqA,cqB]at g17
  refine zY E (zY E (zY E (zA E (qg E E E) (zX E (zK (qd ?_)))))); refine qb (zA E (qK E qcl E E E E) (qE (avs := [_]) true E E E zD qcS E E (qdb g hg) E E (zA E (qal E E) (zX E (qt 25 E (fun g25 => ?_) (fun g25 => ?_))))))
  ·try simp only[↓cqA,cqB]at g25
   refine zZ E (qk (.inl E) E) (zZ E (qal E E) (zA E (qg E E E) (zX E (zK (qo (zI hL (qh E qi) ?_ ?_))))))
   ·rfl
   refine ⟨qT ?_, rfl⟩
   first | (simp_all [okG]; done) | (cases hm : mayT g.l <;> cases hf : flatB g.l <;> simp_all [okG])
  try simp only[↓cqA,cqB]at g25
  refine zY E (zY E (zA E (qg E E E) (zX E (zK (qo (zI hL (qh E qi) ?_ ?_))))))
  ·rfl
  refine ⟨qT ?_, rfl⟩
  first | (simp_all [okG]; done) | (cases hm : mayT g.l <;> cases hf : flatB g.l <;> simp_all [okG])
 try simp only[↓cqA,cqB]at g12
 refine zY E (zY E (zY E (zA E (qg E E E) (zX E (zY E ?_)))))
 refine zY E (zY E (zA E (qg E E E) (zX E (zK (qd (qb ?_)))))); refine zA E (qK E qcl E E E E) (qE (avs := [_]) true E E E zD qcS E E (qdb g hg) E E (zA E (qal E E) (zX E (qt 25 E (fun g25 => ?_) (fun g25 => ?_)))))
 ·try simp only[↓cqA,cqB]at g25
  refine zZ E (qk (.inl E) E) (zZ E (qal E E) (zA E (qg E E E) (zX E (zK (qo (zI hL (qh E qi) ?_ ?_))))))
  ·rfl
  refine ⟨qT ?_, rfl⟩
  first | (simp_all [okG]; done) | (cases hm : mayT g.l <;> cases hf : flatB g.l <;> simp_all [okG])
 try simp only[↓cqA,cqB]at g25
 refine zY E (zY E (zA E (qg E E E) (zX E (zK (qo (zI hL (qh E qi) ?_ ?_))))))
 ·rfl
 refine ⟨qT ?_, rfl⟩
 first | (simp_all [okG]; done) | (cases hm : mayT g.l <;> cases hf : flatB g.l <;> simp_all [okG])
theorem IndexFunc_gd_ok (B : Bool) (ts : List Gd) (es : List (List D)) (hes : es = ts.map gdD) (hlen : ts.length ≤ 140737488351232) (g : FuncId) (caps : List AV) (hen : qW Tryz.prog g) (Os : Nat → List (Nat × Ob)) (p : Nat → Bool) (hO : Thread B caps Os)
  (hstep : ∀ k u, ts[k]? = some u → (∀ j, j < k → p j = false) → AC Tryz.prog g ((fun g => .agg (lift false (gdD g))) u :: caps) (Os k) (fun r O => r = bv (p k) ∧ O = Os (k + 1))) :
  AC Tryz.prog 232 [.dat false 9 es, .fn g caps] (Os 0) (fun r O => ∃ m n i, m ≤ ts.length ∧ (∀ j, j < m → p j = false) ∧ ((m < ts.length ∧ p m = true ∧ i = (m : Int) ∧ n = m + 1) ∨ (m = ts.length ∧ i = -1 ∧ n = m)) ∧ r = iv i ∧ O = Os n) := by
 have hl : es.length = ts.length := by rw [hes, List.length_map]
 refine qF Tryz.func232 E Tryz.ntmps232 zL fun c hL hQ hDD => (qd (qb (zX E (zK (qd (qd ?_)))))); refine qb (zX E (zA E (qu E qa8 E) (zX E (zK (qv (q6 (ts.length) (fun k => k ≤ ts.length ∧ ∀ j, j < k → p j = false) (fun k => ⟨[(0, .dat false 9 es), (1, .fn g caps), (7, iv es.length), (8, iv (k : Int))], Os k⟩) (⟨by omega, fun j hj => absurd hj (by omega)⟩) ?_ (fun k hk hp => ?_)))))))
 ·exact qB (zC E (zC E (zC E (zC E SubT.nil)))) (fun _ _ h => h) (by simp [allT, AV.allL, hO.all]) (hO.self _) (fun l hl => by rw [hO.dom]; exact (hL l).1 hl)
 refine qd (qb (zA E (qj E E E E) (zK (qd (qq E (fun c0 => ?_) (fun c0 => ?_))))))
 ·try simp only[↓cqA,cqB]at c0
  obtain ⟨u, hu⟩ := qH (l := ts) (k := k) (by omega)
  refine qr (qa (qd (qv (qd (qb (zX E (zX E ?_))))))); refine zK (qd (qb (zX E (zX E (zX E ?_)))))
  refine zA E (qp E qa8 E E (by omega) (by rw [hes, List.getElem?_map]; exact congrArg (Option.map gdD) hu)) ?_; refine zA E (qC E qcl E E) ?_; refine qaj (avs := [_]) B E E E zD hen E E (hstep k u hu hp.2) (by rw [List.cons_append, List.nil_append]; simp only [AV.cvs, hO.cvs]; rfl) (hO.pass k) (by rintro r O' ⟨_, rfl⟩ l hl; left; rw [hO.dom] at hl ⊢; exact hl) (by rintro hB r O' ⟨rfl, rfl⟩; exact ⟨rfl, hO.q hB _⟩) ?_
  rintro r O' ⟨rfl, rfl⟩
  refine zK (qq E (fun c1 => ?_) (fun c1 => ?_))
  ·try simp only[↓cqA,cqB]at c1
   refine qd (qb (zX E (zX E (zK (qo (qS (qm (qm (qS (qm ?_))))))))))
   change retQ _ _ _ _ _ _ _
   refine retO (.inl E) (qh E qi) SubO.left rfl (hO.self _) (fun l hl => by rw [hO.dom]; exact (hL l).1 hl) ?_
   exact ⟨k, _, _, by omega, hp.2, .inl ⟨by omega, c1, rfl, rfl⟩, rfl, rfl⟩
  try simp only[↓cqA,cqB]at c1
  refine qr (qP (qa (qb (zA E (qJ E E E (by omega)) (zX E (zK ?_)))))); refine ⟨?_, ?_, ?_⟩
  ·omega
  ·refine ⟨by omega, fun j hj => ?_⟩
   by_cases hjk : j < k
   ·exact hp.2 j hjk
   ·rw [show j = k by omega]; exact c1
  exact qB (zC E (zC E (zC E (zC E SubT.nil)))) (SubO.left) (by simp [allT, AV.allL, hO.all]) (hO.self _) (fun l hl => by rw [hO.dom]; exact (hL l).1 hl)
 try simp only[↓cqA,cqB]at c0
 refine qQ (qn (qn (qX ?_))); refine qa (qd (qb (zX E (zK (qo ?_)))))
 change retQ _ _ _ _ _ _ _
 refine retO (.inl E) (qh E qi) (fun _ _ h => h) E (hO.self _) (fun l hl => by rw [hO.dom]; exact (hL l).1 hl) ?_
 exact ⟨k, _, _, by omega, hp.2, .inr ⟨by omega, rfl, rfl⟩, rfl, rfl⟩
theorem ContainsFunc_gd_ok (B : Bool) (ts : List Gd) (es : List (List D)) (hes : es = ts.map gdD) (hlen : ts.length ≤ 140737488351232) (g : FuncId) (caps : List AV) (hen : qW Tryz.prog g) (Os : Nat → List (Nat × Ob)) (p : Nat → Bool) (hO : Thread B caps Os)
  (hstep : ∀ k u, ts[k]? = some u → (∀ j, j < k → p j = false) → AC Tryz.prog g ((fun g => .agg (lift false (gdD g))) u :: caps) (Os k) (fun r O => r = bv (p k) ∧ O = Os (k + 1))) :
  AC Tryz.prog 171 [.dat false 9 es, .fn g caps] (Os 0) (fun r O => ∃ m n b, m ≤ ts.length ∧ (∀ j, j < m → p j = false) ∧ ((m < ts.length ∧ p m = true ∧ b = true ∧ n = m + 1) ∨ (m = ts.length ∧ b = false ∧ n = m)) ∧ r = bv b ∧ O = Os n) := by
 refine qF Tryz.func171 E Tryz.ntmps171 zL fun c hL hQ hDD => (qd (qb (zX E (zK (qd (qb ?_)))))); refine zX E (zX E ?_)
 refine qaj (avs := [_, _]) B E E E zD qde E E (IndexFunc_gd_ok B ts es hes hlen g caps hen Os p hO hstep) (by simp only [List.append_nil, AV.cvs, AV.cv, hO.cvs]; rfl) (hO.pass 0) (by rintro r O' ⟨m, n, i, _, _, _, _, rfl⟩ l hl; left; rw [hO.dom] at hl ⊢; exact hl) (by rintro hB r O' ⟨m, n, i, _, _, _, rfl, rfl⟩; exact ⟨rfl, hO.q hB _⟩) ?_
 rintro r O' ⟨m, n, i, hm, hf, hc, rfl, rfl⟩
 refine zA E (qj E E E E) (zX E (zK (qo ?_)))
 change retQ _ _ _ _ _ _ _
 refine retO (.inl E) (qh E qi) SubO.left rfl (hO.self _) (fun l hl => by rw [hO.dom]; exact (hL l).1 hl) ?_; refine ⟨m, n, _, hm, hf, ?_, rfl, rfl⟩
 rcases hc with ⟨h1, h2, rfl, h3⟩ | ⟨h1, rfl, h3⟩
 ·exact .inl ⟨h1, h2, by simp, h3⟩
 ·exact .inr ⟨h1, by simp, h3⟩
def okGs (l : List Gd) : Bool := decide (l.length ≤ 4) && l.all okG
theorem showGuards_ok (l : List Gd) (hl : qba l) (hw : ∀ g ∈ l, g.wf) : PF 112 [.dat false 9 (gdDs l)] (bv (okGs l)) := by
  have hlen := gdDs_length l
  simp only [qba] at hl
  refine qF Tryz.func112 E Tryz.ntmps112 zL fun c hL hQ hDD => (qd (qb (zX E (zK (qd (qb ?_)))))); refine zX E (zK (qd (qb (zX E (zA E (qu E qa8 E) (zA E (qj E E E E) (zX E (qt 7 E (fun g7 => ?_) (fun g7 => ?_)))))))))
  · try simp only[↓cqA,cqB]at g7
    refine zZ E (qk (.inl E) E) (zZ E (qk (.inl E) E) ?_)
    refine awps_gcallP (avs := [_, _]) false E E E zD E E zD qcR E E (ContainsFunc_gd_ok false l _ E (by omega) _ [] en_show_Guards_1 (fun _ => []) (fun k => match l[k]? with | some g => !(okG g) | none => false) ⟨fun k l => rfl, fun k => qbX .nil, fun k => rfl, fun k => rfl, fun k => rfl, fun k => rfl, fun h => by cases h⟩ (fun k g hg _ => by rw [hg]; exact showGuards1_ok g (hw g (List.mem_of_getElem? hg)))) E (qbX .nil) (by rintro r O' ⟨m, n, b, _, _, _, _, rfl⟩; exact frB E) (by rintro h; cases h) ?_
    rintro r O' ⟨m, n, b, hm1, hf1, hc, rfl, rfl⟩
    refine zZ E (qal E E) (zA E (qg E E E) (zX E (zK (qo (zI hL (qh E qi) ?_ ?_)))))
    · rfl
    refine ⟨qT ?_, rfl⟩
    first
      | (have hall : b = !(l.all okG) := by
           rcases hc with ⟨h1, h2, rfl, _⟩ | ⟨h1, rfl, _⟩
           · obtain ⟨x, hx⟩ := qH (l := l) (k := m) h1
             simp only [hx] at h2
             symm; rw [Bool.not_eq_true']
             exact List.all_eq_false.2 ⟨x, List.mem_of_getElem? hx, by simpa using h2⟩
           · symm; rw [Bool.not_eq_false']
             refine List.all_eq_true.2 fun x hx => ?_
             obtain ⟨j, hj⟩ := List.getElem?_of_mem hx
             have := hf1 j (by rw [h1]; exact (List.getElem?_eq_some_iff.1 hj).1)
             simp only [hj] at this
             simpa using this
         rw [hall, okGs, decide_eq_true (by omega)]; simp)
      | (rw [okGs, decide_eq_false (by omega)]; rfl)
  try simp only[↓cqA,cqB]at g7
  refine zY E (zY E (zY E (zY E (zA E (qg E E E) (zX E (zK ?_)))))); refine qo (zI hL (qh E qi) ?_ ?_)
  · rfl
  refine ⟨qT ?_, rfl⟩
  first
    | (have hall : b = !(l.all okG) := by
         rcases hc with ⟨h1, h2, rfl, _⟩ | ⟨h1, rfl, _⟩
         · obtain ⟨x, hx⟩ := qH (l := l) (k := m) h1
           simp only [hx] at h2
           symm; rw [Bool.not_eq_true']
           exact List.all_eq_false.2 ⟨x, List.mem_of_getElem? hx, by simpa using h2⟩
         · symm; rw [Bool.not_eq_false']
           refine List.all_eq_true.2 fun x hx => ?_
           obtain ⟨j, hj⟩ := List.getElem?_of_mem hx
           have := hf1 j (by rw [h1]; exact (List.getElem?_eq_some_iff.1 hj).1)
           simp only [hj] at this
           simpa using this
       rw [hall, okGs, decide_eq_true (by omega)]; simp)
    | (rw [okGs, decide_eq_false (by omega)]; rfl)
theorem occ_varB {t : Tm} {y : ByteArray} (hs : t.shp) : t.occ y → varB y = true := by
 refine Tm.ind (P := fun t => t.shp → t.occ y → varB y = true) (fun t ih hs ho => ?_) t hs
 rcases (Tm.occ_iff y t).1 ho with ⟨hk, e⟩ | ⟨u, hu, ho⟩
 ·rw [← e]; exact (hs.var hk).2
 ·exact ih u hu (hs.arg hu) ho
theorem sz_leaf {t : Tm} (h : t.args = []) : t.sz = 1 := by
 cases t; simp only at h; subst h; rfl
theorem sub_leaf {g : ByteArray → Tm} (t : Tm) : t.shp → (∀ y, t.occ y → (g y).shp ∧ (g y).args = []) → (t.sub g).shp ∧ (t.sub g).sz = t.sz ∧ ∀ d, dle d t → dle d (t.sub g) := by
  refine Tm.ind (P := fun t => t.shp → (∀ y, t.occ y → (g y).shp ∧ (g y).args = []) → (t.sub g).shp ∧ (t.sub g).sz = t.sz ∧ ∀ d, dle d t → dle d (t.sub g)) (fun t ih hs hg => ?_) t
  rw [Tm.sub_eq]
  split
  · rename_i hk
    obtain ⟨h1, h2⟩ := hg t.name ((Tm.occ_iff _ _).2 (.inl ⟨hk, rfl⟩))
    have ev := (hs.var hk).1
    refine ⟨h1, by rw [sz_leaf h2, ev]; rfl, fun d hd => ?_⟩
    cases d with
    | zero => exact hd
    | succ d => intro u hu; rw [h2] at hu; cases hu
  · rename_i hk
    have ih2 := fun u hu => ih u hu (hs.arg hu) (fun y hy => hg y ((Tm.occ_iff _ _).2 (.inr ⟨u, hu, hy⟩)))
    have htop := ((Tm.shp_iff t).1 hs).1
    refine ⟨(Tm.shp_iff _).2 ⟨?_, fun v hv => ?_⟩, ?_, fun d hd => ?_⟩
    · simp only [Tm.top] at htop ⊢
      rcases htop with ⟨h1, _⟩ | ⟨h1, h2, h3, h4⟩ | ⟨h1, h2, h3, h4⟩
      · exact absurd h1 hk
      · exact .inr (.inl ⟨h1, h2, h3, by rw [h4]; rfl⟩)
      · exact .inr (.inr ⟨h1, h2, h3, by simpa using h4⟩)
    · obtain ⟨u, hu, rfl⟩ := List.mem_map.1 hv
      exact (ih2 u hu).1
    · rw [Tm.sz_eq, Tm.sz_eq]
      simp only [List.map_map]
      congr 2
      exact List.map_congr_left fun u hu => (ih2 u hu).2.1
    · cases d with
      | zero => exact hd
      | succ d =>
        intro v hv
        obtain ⟨u, hu, rfl⟩ := List.mem_map.1 hv
        exact (ih2 u hu).2.2 d (hd u hu)
theorem may_leaf {g : ByteArray → Tm} {t : Tm} (h : mayT t = true) (hg : ∀ y, t.occ y → (g y).shp ∧ (g y).args = []) : mayT (t.sub g) = true := by
 obtain ⟨h1, h2, h3⟩ := (mayT_iff t).1 h
 obtain ⟨k1, k2, k3⟩ := sub_leaf t h1 hg
 exact (mayT_iff _).2 ⟨k1, k3 5 h2, by omega⟩
structure FG (l : List Bd) : Prop where
 gg : GG l
 leaf : ∀ b ∈ l, b.t.args = []
theorem FG.get {l : List Bd} (h : FG l) {t : Tm} (ht : mayT t = true) : ∀ y, t.occ y → (gB l y).shp ∧ (gB l y).args = [] := fun y hy => by
  cases hh : hasB l y with
  | true =>
    obtain ⟨b, hb, rfl⟩ := (hasB_iff l y).1 hh
    rw [gB_mem h.gg.gb.ris hb]
    exact ⟨qdT (h.gg.gb.el b hb).2.2, h.leaf b hb⟩
  | false =>
    rw [gB_none h.gg.gb.ris hh]
    exact ⟨(Tm.shp_iff _).2 ⟨.inl ⟨rfl, occ_varB (qdT ht) hy, rfl, rfl⟩, fun u hu => by cases hu⟩, rfl⟩
theorem FG.put {l : List Bd} (h : FG l) {t : Tm} (ht : mayT t = true) : mayT (putT l t) = true := by
 rw [putT_sub (qbA ht)]
 exact may_leaf ht (h.get ht)
def u8 (n : Int) : UInt8 := UInt8.ofNat (n % 256).toNat
theorem wrap_u8 (n : Int) : IntKind.u8.wrap n = ((u8 n).toNat : Int) := by
 have h1 : 0 ≤ n % 256 := Int.emod_nonneg _ (by decide)
 have h2 : n % 256 < 256 := Int.emod_lt_of_pos _ (by decide)
 have e : IntKind.u8.wrap n = n % 256 := by
  simp [IntKind.wrap, IntKind.signed, IntKind.bits]
 rw [e, u8, UInt8.toNat_ofNat']
 omega
def kq (n : Int) : Int := IntKind.u32.wrap (IntKind.i32.wrap n)
def keyL : Nat → Tm → List UInt8
 | 0, _ => []
 | d + 1, t => [u8 t.kind, u8 t.name.size] ++ t.name.data.toList ++ [u8 (kq t.n / 2 ^ min (24 : Int).toNat IntKind.u32.bits), u8 (kq t.n / 2 ^ min (16 : Int).toNat IntKind.u32.bits), u8 (kq t.n / 2 ^ min (8 : Int).toNat IntKind.u32.bits), u8 (kq t.n), u8 t.args.length] ++ (t.args.map (keyL d)).flatten
theorem shp_name {t : Tm} (h : t.shp) : t.name.size ≤ 16 := by
 have hw : ∀ p, wordB p t.name = true → t.name.size ≤ 16 := fun p hp => by
  simp only [wordB, Bool.and_eq_true, decide_eq_true_eq] at hp
  exact hp.1.1.2
 rcases ((Tm.shp_iff t).1 h).1 with ⟨_, h, _⟩ | ⟨_, _, h, _⟩ | ⟨_, h, _⟩
 ·exact hw _ h
 ·omega
 ·exact hw _ h
theorem u8_inj {a b : Int} (h : u8 a = u8 b) : a % 256 = b % 256 := by
 have := congrArg (fun x : UInt8 => (x.toNat : Int)) h
 simp only [← wrap_u8] at this
 have e : ∀ n : Int, IntKind.u8.wrap n = n % 256 := fun n => by simp [IntKind.wrap, IntKind.signed, IntKind.bits]
 rwa [e, e] at this
theorem kq_range (n : Int) : 0 ≤ kq n ∧ kq n < 4294967296 := by
 have e : ∀ n : Int, IntKind.u32.wrap n = n % 4294967296 := fun n => by simp [IntKind.wrap, IntKind.signed, IntKind.bits]
 rw [kq, e]
 exact ⟨Int.emod_nonneg _ zD, Int.emod_lt_of_pos _ zD⟩
theorem kq_inj {a b : Int} (ha : -1073741824 ≤ a ∧ a ≤ 1073741824) (hb : -1073741824 ≤ b ∧ b ≤ 1073741824) (h : kq a = kq b) : a = b := by
 have e : ∀ n : Int, IntKind.u32.wrap n = n % 4294967296 := fun n => by simp [IntKind.wrap, IntKind.signed, IntKind.bits]
 have e2 : ∀ n : Int, -1073741824 ≤ n ∧ n ≤ 1073741824 → IntKind.i32.wrap n = n := fun n hn => by
  simp [IntKind.wrap, IntKind.signed, IntKind.bits]
  split <;> omega
 rw [kq, kq, e, e, e2 a ha, e2 b hb] at h
 omega
theorem flat_inj {α β : Type} {f : α → List β} : ∀ (l m : List α) (r s : List β), l.length = m.length → (∀ a ∈ l, ∀ b ∈ m, ∀ r s, f a ++ r = f b ++ s → a = b ∧ r = s) → (l.map f).flatten ++ r = (m.map f).flatten ++ s → l = m ∧ r = s
  | [], [], r, s, _, _, h => ⟨rfl, by simpa using h⟩
  | a :: l, b :: m, r, s, hl, hf, h => by
    simp only [List.map_cons, List.flatten_cons, List.append_assoc] at h
    obtain ⟨h1, h2⟩ := hf a (by simp) b (by simp) _ _ h
    obtain ⟨h3, h4⟩ := flat_inj l m r s (by simpa using hl) (fun x hx y hy => hf x (by simp [hx]) y (by simp [hy])) h2
    exact ⟨by rw [h1, h3], h4⟩
  | [], _ :: _, _, _, hl, _, _ => by simp at hl
  | _ :: _, [], _, _, hl, _, _ => by simp at hl
theorem shp_n {t : Tm} (h : t.shp) : -1073741824 ≤ t.n ∧ t.n ≤ 1073741824 := by
 rcases ((Tm.shp_iff t).1 h).1 with ⟨_, _, e, _⟩ | ⟨_, e, _⟩ | ⟨_, _, e, _⟩
 ·omega
 ·simpa [numB] using e
 ·omega
theorem shp_k {t : Tm} (h : t.shp) : 1 ≤ t.kind ∧ t.kind ≤ 3 := by
 rcases ((Tm.shp_iff t).1 h).1 with ⟨e, _⟩ | ⟨e, _⟩ | ⟨e, _⟩ <;> omega
theorem shp_al {t : Tm} (h : t.shp) : t.args.length ≤ 4 := by
 rcases ((Tm.shp_iff t).1 h).1 with ⟨_, _, _, e⟩ | ⟨_, _, _, e⟩ | ⟨_, _, _, e⟩
 ·rw [e]; simp
 ·rw [e]; simp
 ·exact e
theorem keyL_inj : ∀ (d : Nat) (a b : Tm), dle d a → dle d b → a.shp → b.shp → ∀ r s : List UInt8, keyL d a ++ r = keyL d b ++ s → a = b ∧ r = s
  | 0, a, _, h, _, _, _ => h.elim
  | d + 1, a, b, da, db, sa, sb => fun r s h => by
    have na := shp_name sa
    have nb := shp_name sb
    have la : a.name.data.toList.length = a.name.size := by simp
    have lb : b.name.data.toList.length = b.name.size := by simp
    have ka := shp_k sa
    have kb := shp_k sb
    have aa := shp_al sa
    have ab := shp_al sb
    rw [keyL, keyL] at h
    simp only [List.append_assoc, List.cons_append, List.nil_append, List.cons.injEq] at h
    obtain ⟨h1, h2, h⟩ := h
    have h1 := u8_inj h1
    have h2 := u8_inj h2
    have hsz : a.name.size = b.name.size := by omega
    obtain ⟨h3, h⟩ := List.append_inj h (by rw [la, lb, hsz])
    simp only [List.cons.injEq] at h
    obtain ⟨q1, q2, q3, q4, q5, h⟩ := h
    have q1 := u8_inj q1
    have q2 := u8_inj q2
    have q3 := u8_inj q3
    have q4 := u8_inj q4
    have q5 := u8_inj q5
    have c24 : min (24 : Int).toNat IntKind.u32.bits = 24 := by decide
    have c16 : min (16 : Int).toNat IntKind.u32.bits = 16 := by decide
    have c8 : min (8 : Int).toNat IntKind.u32.bits = 8 := by decide
    rw [c24] at q1
    rw [c16] at q2
    rw [c8] at q3
    have ra := kq_range a.n
    have rb := kq_range b.n
    have hq : kq a.n = kq b.n := by
      have p24 : (2 : Int) ^ 24 = 16777216 := by decide
      have p16 : (2 : Int) ^ 16 = 65536 := by decide
      have p8 : (2 : Int) ^ 8 = 256 := by decide
      rw [p24] at q1
      rw [p16] at q2
      rw [p8] at q3
      omega
    have hn := kq_inj (shp_n sa) (shp_n sb) hq
    obtain ⟨h4, h5⟩ := flat_inj a.args b.args r s (by omega) (fun x hx y hy => keyL_inj d x y (da x hx) (db y hy) (sa.arg hx) (sb.arg hy)) h
    refine ⟨?_, h5⟩
    have hk : a.kind = b.kind := by omega
    have hnm := bext h3
    cases a; cases b
    simp only at hk hnm hn h4
    rw [hk, hnm, hn, h4]
end Go.Proofs.YtpgceiijoedppaaGreat

namespace Go.Proofs.YtpgceiijoedppaaGreat
open Go Go.Maps
def keyS (f : Ft) : ByteArray := ⟨(keyL 5 f.t).toArray⟩
def sameId (a b : Ft) : Bool := decide (keyS a = keyS b) && decide (a.fr = b.fr) && decide (a.to = b.to)
def stepL (l : List Kp) (i : Nat) : Bool := match l[i]? with
 | some x => factB x.f && decide (0 ≤ x.seq) && (decide (i = 0) || match l[i - 1]? with | some y => decide (y.seq < x.seq) | none => false) && !((l.take i).any fun y => sameId y.f x.f)
 | none => true
def listB (l : List Kp) : Bool := decide (l.length ≤ 300) && (List.range l.length).all (stepL l)
theorem qda {l : List Kp} {k : Nat} {x : Kp} (h : l[k]? = some x) : stepL l k = (factB x.f && decide (0 ≤ x.seq) && (decide (k = 0) || match l[k - 1]? with | some y => decide (y.seq < x.seq) | none => false) && !((l.take k).any fun y => sameId y.f x.f)) := by
 rw [stepL, h]
end Go.Proofs.YtpgceiijoedppaaGreat

namespace Go.Proofs.YtpgceiijoedppaaGreat
open Go
theorem listB_may {l : List Kp} (h : listB l = true) : l.length ≤ 300 ∧ ∀ k ∈ l, factB k.f = true := by
 simp only [listB, Bool.and_eq_true, decide_eq_true_eq, List.all_eq_true, List.mem_range] at h
 refine ⟨h.1, fun k hk => ?_⟩
 obtain ⟨j, hj⟩ := List.getElem?_of_mem hk
 have := h.2 j (List.getElem?_eq_some_iff.1 hj).1
 rw [qda hj] at this
 simp only [Bool.and_eq_true] at this
 exact this.1.1.1
def wK (k : Kp) : Int := wT k.f.t
def wKs (l : List Kp) : Int := wgtL wK l.length l
theorem KeptsWeight_ok (l : List Kp) (hl : qba l) (hw : ∀ k ∈ l, k.wf) : PF 74 [.dat false 7 (kpDs l)] (iv (wKs l)) := by
 have hlen := kpDs_length l
 have hF : ∀ u, u ∈ l → 0 ≤ wK u ∧ wK u ≤ 4362862138900000 := fun u hu => qbL u.f.t (hw u hu).2.1
 simp only [qba] at hl
 refine qF Tryz.func74 E Tryz.ntmps74 zL fun c hL hQ hDD => (qd (qb (zX E (zK (qd (qb ?_)))))); refine zX E (zA E (qu E qaq E) ?_)
 refine zX E (zK (qd (qd (qb (zX E (qc ?_)))))); refine qa (qv (q6 (l.length) (fun k => k ≤ l.length ∧ ∀ j, j < k → wgtL wK l.length (l.take j) < 1048576) (fun k => ⟨[(0, .dat false 7 (kpDs l)), (3, iv (wgtL wK l.length (l.take k))), (4, iv (k : Int))], []⟩) (⟨by omega, fun j hj => absurd hj (by omega)⟩) ?_ (fun k hk hp => ?_)))
 ·exact zR hL (zC E (SubT.cons (qan E (by exact qL (by simp only [List.take_zero, wgtL]; omega))) (zC E SubT.nil))) SubO.nil
 have hwk := qdH wK 4362862138900000 (by omega) l.length (l.take k) (fun u hu => (hF u (List.mem_of_mem_take hu)).2) (by omega)
 have hw0 := qbr wK l.length (l.take k) (fun u hu => (hF u (List.mem_of_mem_take hu)).1)
 refine qd (qd (qb (zX E (zX E (zA E (qu E qaq E) (zA E (qj E E E E) (zX E ?_))))))); refine qt 11 E (fun g11 => ?_) (fun g11 => ?_)
 ·try simp only[↓cqA,cqB]at g11
  obtain ⟨u, hu⟩ := qH (l := l) (k := k) (by omega)
  have hum := List.mem_of_getElem? hu
  have huw := hF u hum
  have hws : wK u = wT u.f.t := rfl
  have hut := (hw u hum).2.1
  refine zZ E (qk (.inl E) E) (zZ E (qj E E E E) (zA E (qg E E E) (zK (qq E (fun c0 => ?_) (fun c0 => ?_)))))
  ·try simp only[↓cqA,cqB]at c0
   refine qr (qa (qd (qv (qb (zX E (zX E (zX E ?_))))))); refine zA E (qp E qaq E E (by omega) (qbO hu)) (zA E (qA E qbs E) (zA E (qA E qbP E) (zA E (stp_load_elpn E qw E E E) (qE (avs := [_, _]) true E E E zD qaI E E (qbU u.f.t hut) E E (zA E (qJ E E E (by omega)) (zX E (qc (qP (qa (qb (zX E (zA E (qJ E E E (by omega)) (zX E (qc ?_))))))))))))))
   have hb := qc7 wK l.length (l.take k) u (fun j hj => by
    by_cases hjk : j < k
    ·have := hp.2 j hjk; rwa [List.take_take, Nat.min_eq_left (by omega)]
    ·rw [List.take_of_length_le (by simp; omega)]; omega)
   rw [← qac hu] at hb
   refine qa ?_; refine ⟨?_, ?_, ?_⟩
   ·omega
   ·refine ⟨by omega, fun j hj => ?_⟩
    by_cases hjk : j < k
    ·exact hp.2 j hjk
    ·rw [show j = k by omega]; omega
   exact zR hL (zC E (SubT.cons (qan E (by exact qL (by rw [hb]; try omega))) (zC E SubT.nil))) SubO.nil
  try simp only[↓cqA,cqB]at c0
  have hfin : wgtL wK l.length (l.take k) = wgtL wK l.length l := ((qcO wK _ _ k hp.1 hp.2).trans (qc6 _ _ _ (by omega))).symm
  refine qQ (qn (qn (qX ?_))); refine qa (qd (qb (zX E (zX E (zK (qo (zI hL (qh E qi) ?_ ?_)))))))
  ·rfl
  exact ⟨qa2 hfin, rfl⟩
 try simp only[↓cqA,cqB]at g11
 have hfin : wgtL wK l.length (l.take k) = wgtL wK l.length l := by rw [List.take_of_length_le (by omega)]
 refine zY E (zY E (zA E (qg E E E) (zK (qab E (qQ (qn (qn (qX ?_)))))))); refine qa (qd (qb (zX E (zX E (zK (qo (zI hL (qh E qi) ?_ ?_)))))))
 ·rfl
 exact ⟨qa2 hfin, rfl⟩
theorem wKs_range (l : List Kp) (hl : qba l) (hw : ∀ k ∈ l, k.wf) : 0 ≤ wKs l ∧ wKs l ≤ 4600000000000000 := by
 have hF : ∀ u, u ∈ l → 0 ≤ wK u ∧ wK u ≤ 4362862138900000 := fun u hu => qbL u.f.t (hw u hu).2.1
 have h1 := qdH wK 4362862138900000 (by omega) l.length l (fun u hu => (hF u hu).2) (by simp only [qba] at hl; omega)
 have h2 := qbr wK l.length l (fun u hu => (hF u hu).1)
 simp only [wKs]; omega
abbrev sa : ByteArray := ⟨#[97]⟩
def f0 : Ft := ⟨nmT sa [], 1, 2⟩
def l0 : List Kp := [⟨7, f0⟩]
theorem run_eqSpan (w : World) (a b c d : Int) : (binOp .eql 53 (.agg #[.int .i64 a, .int .i64 b]) (.agg #[.int .i64 c, .int .i64 d])).run Tryz.prog w = .ok (.bool (a == c && b == d)) w := by
 have u3 := Tryz.underlying3
 have a3 := Tryz.isAgg3
 have z3 := Tryz.sizeOf3
 have hS : Tryz.prog.underlying 53 = some (.struct (Tryz.prog.fieldsOf 53)) := by kernel_rfl
 have hp : Tryz.prog.stoodInHeld 53 = false := by kernel_rfl
 rw [run_eql_struct, show (10000 : Nat) = 9999 + 1 from rfl, run_equalIn_agg w 9999 53 _ _ hS hp]
 simp only [Program.fieldsOf, Tryz.underlying53]
 go_simp
 by_cases h1 : a = c <;> by_cases h2 : b = d <;> simp [h1, h2]
theorem stp_eqSpan {c : Ctx} {N : Nat} {σ : St} {o : Oper} {x y : Operand} {t' : TypeId} {a b p q : Int} (ho : o.op = .binOp .eql 53 x y t') (hx : ev σ.T x = some (.agg [iv a, iv b])) (hy : ev σ.T y = some (.agg [iv p, iv q])) : Stp Tryz.prog c N o σ [] (.imm (.bool (a == p && b == q))) [] := by
 refine qaH fun σ' h1 _ st w ρ S hc => ⟨_, ?_, by simp only [Rep]; rfl⟩
 have hx' := qaF hc (h1 x (by simp [ho, Op.operands]) _ hx)
 have hy' := qaF hc (h1 y (by simp [ho, Op.operands]) _ hy)
 simp only [Rep, RepL] at hx' hy'
 obtain ⟨_, hxe, _, _, _, rfl, rfl, _, _, rfl, rfl, rfl⟩ := hx'
 obtain ⟨_, hye, _, _, _, rfl, rfl, _, _, rfl, rfl, rfl⟩ := hy'
 simp only [execOp, ho, hxe, hye]
 simp only [Sem.run_bind, run_eqGuard_agg (P := Tryz.prog) w .eql 53 x y _ _ (by kernel_rfl), Result.andThen_ok]
 have := run_eqSpan w a b p q
 simp only [List.toArray] at *
 simp [Sem.run_bind, this]
def eqF (a b : Ft) : Bool := eqT 5 a.t b.t && (a.fr == b.fr && a.to == b.to)
theorem EqFact_ok (a b : Ft) (hd : dle 5 a.t) (ha : a.wf) (hb : b.wf) : PF 58 [ftA a, ftA b] (bv (eqF a b)) := by
 have ha1 := ha.1
 have hb1 := hb.1
 refine qF Tryz.func58 E Tryz.ntmps58 zL fun c hL hQ hDD => (qd (qb (qy E E zD (qaa 2 E E E) E (qy E E zD (qaa 3 E E E) E (zX E (zK ?_)))))); refine qd (qb (zA E (qe E qbP E) (zA E (ql E qw E E E E E) (zA E (qe E qbP E) (zA E (ql E qw E E E E E) (qE (avs := [_, _]) true E E E zD qbh E E (EqTerm_ok 5 a.t b.t hd ha1 hb1) E E (zX E (qt 10 E (fun g10 => ?_) (fun g10 => ?_)))))))))
 ·try simp only[↓cqA,cqB]at g10
  refine zZ E (qe E qb4 E) (zZ E (ql E qaO E E E E E) (zZ E (qe E qb4 E) (zZ E (ql E qaO E E E E E) (zZ E (stp_eqSpan E E E) (zA E (qg E E E) (zX E (zK (qo (zI hL (qh E qi) ?_ ?_)))))))))
  ·rfl
  refine ⟨qT ?_, rfl⟩
  simp_all [eqF]
 try simp only[↓cqA,cqB]at g10
 refine zY E (zY E (zY E (zY E (zY E (zA E (qg E E E) (zX E (qc ?_))))))); refine qa (qo (zI hL (qh E qi) ?_ ?_))
 ·rfl
 refine ⟨qT ?_, rfl⟩
 simp_all [eqF]
theorem qdO {f : Ft} (h : factB f = true) : mayT f.t = true ∧ f.t.shp ∧ dle 5 f.t := ⟨factB_may h, qdT (factB_may h), qbA (factB_may h)⟩
theorem cmpF_zero {a b : Ft} (hd : dle 5 a.t) : cmpF a b = 0 ↔ eqF a b = true := by
 have h1 := cmpT_zero 5 a.t b.t hd
 have h2 := cmpI_zero a.fr b.fr
 have h3 := cmpI_zero a.to b.to
 simp only [cmpF, orL, eqF, Bool.and_eq_true, beq_iff_eq, ← h1, ← h2, ← h3]
 split
 ·rename_i e1
  split
  ·rename_i e2
   split
   ·rename_i e3; simp [e1, e2, e3]
   ·rename_i e3; simp [e1, e2, e3]
  ·rename_i e2; simp [e1, e2]
 ·rename_i e1; simp [e1]
end Go.Proofs.YtpgceiijoedppaaGreat
