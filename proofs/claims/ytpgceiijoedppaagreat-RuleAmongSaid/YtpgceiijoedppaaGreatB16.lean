/- Part 16 of the proof: Ne. -/
import Derived.Test.YtpgceiijoedppaaGreatB15
set_option linter.unusedVariables false
set_option linter.unusedSimpArgs false
set_option maxRecDepth 8000
namespace Go.Proofs.YtpgceiijoedppaaGreat
open Go
theorem LOq {c : Ctx} {Oin O1 : List (Nat × Ob)} (hL : ∀ l, c.L l ↔ inD Oin l = true) (h : (Oin.all fun p => inD O1 p.1) = true) : ∀ l, c.L l → inD O1 l = true := fun l hl => by
 obtain ⟨p, hp, rfl⟩ := inD_mem ((hL l).1 hl)
 exact List.all_eq_true.1 h p hp
theorem MOk.wf {n : Nat} {m : Mt} (h : MOk n m) (hn : n ≤ 1000000) : m.wf := by
 have h1 := h.lo; have h2 := h.mid; have h3 := h.hi; have h4 := h.ul
 have h5 := h.gg.gb.len
 exact ⟨⟨by simp only [qba]; omega, fun b hb => (h.gg.gb.el b hb).1⟩, ⟨by simp only [i64]; omega, by simp only [i64]; omega⟩, by simp only [qba]; omega, h.ui⟩
theorem MOk.dle {n : Nat} {m : Mt} (h : MOk n m) : ∀ x ∈ m.b, Go.Proofs.YtpgceiijoedppaaGreat.dle 5 x.t := fun x hx => qbA (h.gg.gb.el x hx).2.2
def qdF : List D := [.imm (.slice none 0 0), .imm (.int .i64 0), .imm (.int .i64 0), .imm (.slice none 0 0)]
def qcp (l : List Mt) (i : Nat) (y : List D) : List (List D) := mtDs (l.take (l.length - i)) ++ y :: mtDs (l.drop (l.length - i))
theorem qbi (l : List Mt) (i : Nat) (y : List D) : (qcp l i y).length = l.length + 1 := by
 simp only [qcp, List.length_append, List.length_cons, qau, List.length_take, List.length_drop]; omega
theorem shiftD_get {l : List Mt} {i : Nat} {y : List D} {u : Mt} (hi : i < l.length) (hu : l[l.length - i - 1]? = some u) : (qcp l i y)[l.length - i - 1]? = some (mtD u) := by
 rw [qcp, List.getElem?_append_left (by rw [qau, List.length_take]; omega)]
 exact qa9 (by rw [List.getElem?_take, if_pos (by omega)]; exact hu)
theorem shiftD_set {l : List Mt} {i : Nat} {y d : List D} : (qcp l i y).set (l.length - i) d = mtDs (l.take (l.length - i)) ++ d :: mtDs (l.drop (l.length - i)) := by
 have e : (mtDs (l.take (l.length - i))).length = l.length - i := by rw [qau, List.length_take]; omega
 rw [qcp, List.set_append_right _ _ (by omega), e, Nat.sub_self, List.set_cons_zero]
theorem shiftD_next {l : List Mt} {i : Nat} {y : List D} {u : Mt} (hi : i < l.length) (hu : l[l.length - i - 1]? = some u) : (qcp l i y).set (l.length - i) (mtD u) = qcp l (i + 1) (mtD u) := by
 rw [shiftD_set, qcp]
 have h1 : l.take (l.length - i) = l.take (l.length - (i + 1)) ++ [u] := by
  rw [show l.length - i = (l.length - (i + 1)) + 1 by omega]
  exact qac (by rw [show l.length - (i + 1) = l.length - i - 1 by omega]; exact hu)
 have h2 : l.drop (l.length - (i + 1)) = u :: l.drop (l.length - i) := by
  obtain ⟨q1, q2⟩ := List.getElem?_eq_some_iff.1 hu
  rw [show l.length - (i + 1) = l.length - i - 1 by omega, List.drop_eq_getElem_cons q1, q2, show l.length - i - 1 + 1 = l.length - i by omega]
 rw [h1, h2]
 simp [mtDs]
theorem put_same {l : List Mt} {m u : Mt} {k : Nat} (hk : posG ordM m l = k) (hp : 0 < k) (hu : l[k - 1]? = some u) : sameG ordM m l = decide (ordM u m = 0) := by
 obtain ⟨q, rfl⟩ : ∃ q, k = q + 1 := ⟨k - 1, by omega⟩
 rw [Nat.add_sub_cancel] at hu
 rw [sameG, hk]
 simp only [hu]
theorem put_zero {l : List Mt} {m : Mt} (hk : posG ordM m l = 0) : sameG ordM m l = false := by rw [sameG, hk]
theorem qdc {l : List (List D)} {J : List (Option (List D))} {i : Nat} {d : List D} (h : i < l.length) : (l.map some ++ J).set i (some d) = (l.set i d).map some ++ J := by
 rw [List.set_append_left _ _ (by simpa using h), List.map_set]
theorem arr_get {l : List (List D)} {J : List (Option (List D))} {i : Nat} {d : List D} (h : l[i]? = some d) : (l.map some ++ J)[i]? = some (some d) := by
 rw [List.getElem?_append_left (by simpa using (List.getElem?_eq_some_iff.1 h).1), List.getElem?_map, h]; rfl
theorem putG_len2 {l : List Mt} {m : Mt} (h : putG ordM l m = l.take (posG ordM m l) ++ m :: l.drop (posG ordM m l)) : (putG ordM l m).length = l.length + 1 := by
 have := posG_le ordM m l
 rw [h]; simp; omega
theorem put13Nil_ok (m : Mt) (hm : m.wf) : AC Tryz.prog 62 [.imm (.slice none 0 0), mtA m] [] (fun r O => r = .row 9 ∧ O = [(9, .rowd 55 4 false (mtDs (putG ordM [] m)))]) := by
 refine qF Tryz.func62 E Tryz.ntmps62 zL fun c hL hQ hDD => (qd (qb (qy E E zD (qaa 3 E E E) E (zX E (zK (qd ?_)))))); refine qb (zX E (zA E (stp_len_nil E qz E) (zX E (zK (qd (qv (q6 (0) (fun k => True) (fun k => ⟨[(0, .imm (.slice none 0 0)), (3, .ptr 3 0), (5, iv 0)], [(3, .box (lift false (mtD m)))]⟩) (trivial) ?_ (fun k hk hp => ?_))))))))
 ·exact zR hL (zC E (zC E (zC E SubT.nil))) (SubO.cons (qR E (by rfl)) SubO.nil)
 refine qd (qd ?_)
 rcases Bool.eq_false_or_eq_true (false) with l10 | l10
 ·have m10 := l10
  try simp only[↓cqA,cqB]at m10
  cases l10
 have m10 := l10
 try simp only[↓cqA,cqB]at m10
 refine qZ 9 mixed E E E E (qf E zD (.run E (qk (.inl E) E)) (qf E zD (.run E (qj (r := .bool false) E E E (congrArg (fun b => some (Value.bool b)) l10))) (qf E zD (.run E (qk (.inl E) E)) (qf E zD (.skip E E E zD zD) (qf E zD (.skip E E E zD zD) (qf E zD (.skip E E E zD zD) (qf E zD (.skip E E E zD zD) (qf E zD (.skip E E E zD zD) (qf E zD (.skip E E E zD zD) ?_)))))))))
 refine qak ⟨rfl, rfl, ?_⟩; refine zY E (zY E (zA E (qg E E E) (zK (qab E (qQ (qn (qn (qX ?_)))))))); refine qa (qd (qd ?_))
 rcases Bool.eq_false_or_eq_true (false) with l24 | l24
 ·have m24 := l24
  try simp only[↓cqA,cqB]at m24
  cases l24
 have m24 := l24
 try simp only[↓cqA,cqB]at m24
 refine qZ 9 mixed E E E E (qf E zD (.run E (qk (.inl E) E)) (qf E zD (.run E (qj (r := .bool false) E E E (congrArg (fun b => some (Value.bool b)) l24))) (qf E zD (.run E (qk (.inl E) E)) (qf E zD (.skip E E E zD zD) (qf E zD (.skip E E E zD zD) (qf E zD (.skip E E E zD zD) (qf E zD (.skip E E E zD zD) (qf E zD (.skip E E E zD zD) (qf E zD (.skip E E E zD zD) ?_)))))))))
 refine qak ⟨rfl, rfl, ?_⟩; refine zY E (zY E (zA E (qg E E E) (zK (qab E (qr (qa ?_)))))); refine qd (qb (zX E (zA E (qa1 E qax E qbk E E) (qy E E zD (qam 38 E qz qax E E zD zD zD E E E) E (qaB (qaU (t := 36) (l := 36) 55 4 false E E) (qc1 E E zD (qa5 39 qcU E E E E E E E E (noL hL _) zD E) E ?_))))))
 refine zX E (zK (qd (qd (qb (zX E (zA E (qcJ E qz E E) ?_)))))); refine zA E (qa0 E E E (by simp)) (zN rfl rfl rfl (zK (qv (q6 (0) (fun k => True) (fun k => ⟨[(0, .row 9), (3, .ptr 3 0), (5, iv 0), (6, iv 0)], [(9, .rowd 55 4 false [qdF]), (3, .box (lift false (mtD m)))]⟩) (trivial) ?_ (fun k hk hp => ?_)))))
 ·exact Sub.trans (qaC 39 9 (noL hL _) (noL hL _)) (qB (zC E (zC E (zC E (zC E SubT.nil)))) (SubO.cons (qR E (by rfl)) (SubO.cons (qR E (by rfl)) SubO.nil)) E E (noL' (noL hL) _))
 refine qd (qd (qb (zX E (zX E (zA E (qj E E E E) (zK ?_)))))); refine qq E (fun c2 => ?_) (fun c2 => ?_)
 ·try simp only[↓cqA,cqB]at c2
  omega
 try simp only[↓cqA,cqB]at c2
 refine qQ (qn (qn (qX ?_))); refine qa (qd (qb (zX E (zX E (zA E (qK E qV E E E E) (zA E (qc0 E qz E E E (by omega) zD) ?_))))))
 refine awps_storeRowd 0 E E E qV E E zD zD E E E E E E (zK (qd (qb (zX E (zX E (qc ?_)))))); refine qa (qo ?_)
 change retQ _ _ _ _ _ _ _
 refine retO (O' := [(9, _)]) (by first | exact .inl E | exact .inr E) (qh E qi) (SubO.cons E SubO.nil) ?_ ?_ (noL' (noL hL) _) ?_
 ·rfl
 ·rfl
 exact ⟨rfl, rfl⟩
theorem put13R_ok (l : List Mt) (hl : l.length ≤ 1000000) (hw : ∀ a ∈ l, a.wf ∧ ∀ x ∈ a.b, dle 5 x.t) (m : Mt) (hm : m.wf) (cap : Nat) (hcap : l.length ≤ cap) (hmax : cap ≤ maxLen) (hroom : l.length + 1 ≤ cap) :
    AC Tryz.prog 62 [.vw 0 0 (mtDs l).length cap, mtA m] [(0, .arr 55 4 false ((mtDs l).map some ++ List.replicate (cap - (mtDs l).length) none))] (fun r O => ∃ (J : List (Option (List D))) (c2 : Nat), c2 = (mtDs (putG ordM l m)).length + J.length ∧
      ((r = .vw 0 0 (mtDs (putG ordM l m)).length c2 ∧ O = [(0, .arr 55 4 false ((mtDs (putG ordM l m)).map some ++ J))]) ∨ (r = .vw 9 0 (mtDs (putG ordM l m)).length c2 ∧ O = [(9, .arr 55 4 false ((mtDs (putG ordM l m)).map some ++ J)), (0, .arr 55 4 false ((mtDs l).map some ++ List.replicate (cap - (mtDs l).length) none))]))) := by
  have hlen := qau l
  have hP := posG_le ordM m l
  have hmx : maxLen = 9223372036854775807 := rfl
  have hal : ((mtDs l).map some ++ List.replicate (cap - (mtDs l).length) (none : Option (List D))).length = cap := by simp; omega
  refine qF Tryz.func62 E Tryz.ntmps62 zL fun c hL hQ hDD => (qd (qb (qy E E zD (qaa 3 E E E) E (zX E (zK (qd ?_)))))); refine qb (zX E (zA E (qdj E qz E) (zX E (zK (qcN ⟨[(0, .vw 0 0 (mtDs l).length cap), (3, .ptr 3 0), (5, iv ((posG ordM m l : Nat) : Int))], [(0, .arr 55 4 false ((mtDs l).map some ++ List.replicate (cap - (mtDs l).length) none)), (3, .box (lift false (mtD m)))]⟩ ?_ ?_)))))
  · refine qv ?_; refine q6 (l.length) (fun i => i ≤ l.length ∧ ∀ (j : Nat) (a : Mt), l.length - i ≤ j → l[j]? = some a → 0 < ordM a m) (fun i => ⟨[(0, .vw 0 0 (mtDs l).length cap), (3, .ptr 3 0), (5, iv ((l.length - i : Nat) : Int))], [(0, .arr 55 4 false ((mtDs l).map some ++ List.replicate (cap - (mtDs l).length) none)), (3, .box (lift false (mtD m)))]⟩) (⟨by omega, fun j a hj ha => by have := (List.getElem?_eq_some_iff.1 ha).1; omega⟩) ?_ (fun i hi hpi => ?_)
    · exact qB (zC E (zC E (SubT.cons (qan E (by exact qL (by rw [hlen]; simp))) SubT.nil))) (SubO.cons (qR rfl (by rfl)) (SubO.cons (qR E (by rfl)) SubO.nil)) E E (LOq hL E)
    refine qd (qd ?_)
    rcases Bool.eq_false_or_eq_true (decide (((l.length - i : Nat) : Int) > 0)) with l10 | l10
    · have m10 := l10
      try simp only[↓cqA,cqB]at m10
      obtain ⟨u, hu⟩ := qH (l := l) (k := l.length - i - 1) (by omega)
      have huw := hw u (List.mem_of_getElem? hu)
      refine qZ 9 mixed E E E E (qf E zD (.run E (qk (.inl E) E)) (qf E zD (.run E (qj (r := .bool true) E E E (congrArg (fun b => some (Value.bool b)) l10))) (qf E zD (.run E (qk (.inl E) E)) (qf E zD (.want E E E zD (qk (.inl E) E)) (qf E zD (.want E E E zD (qk (.inl E) E)) (qf E zD (.want E E E zD (qa0 E E E (by omega))) ?_))))))
      refine qf E zD (.want E E E zD (qas E qz E E (by omega) (by omega))) (qf E zD (.want E E E zD (qbu (i := l.length - i - 1) (j := 0) E qV E E (by omega) (arr_get (qa9 hu)) zD zD E)) (qf E zD (.want E E E zD (qK E qV E E E E)) ?_))
      refine qak ⟨rfl, rfl, ?_⟩; refine zZ E (qY (avs := [_, _]) true E qcg E E (rOrder13_ok u m huw.2 huw.1 hm) (fun _ => rfl) E) (zZ E (qj E E E E) (zA E (qg E E E) (zK (qq E (fun c0 => ?_) (fun c0 => ?_)))))
      · try simp only[↓cqA,cqB]at c0
        refine qr (qa (qv (qb (zX E (zA E (qa0 E E E (by omega)) (zX E (qc ?_))))))); refine qP (qa ?_); refine ⟨?_, ?_, ?_⟩
        · omega
        · refine ⟨by omega, fun j a hj ha => ?_⟩
          by_cases hjk : l.length - i ≤ j
          · exact hpi.2 j a hjk ha
          · rw [show j = l.length - i - 1 by omega, hu] at ha; cases ha; exact c0
        exact qB (zC E (zC E (SubT.cons (qan E (by exact qL (by omega))) SubT.nil))) (SubO.cons (qR E (by rfl)) (SubO.cons (qR E (by rfl)) SubO.nil)) E E (LOq hL E)
      try simp only[↓cqA,cqB]at c0
      refine qQ (qn (qn (qX ?_)))
      exact qai (qB (zC E (zC E (SubT.cons (qan E (by first | exact qL (by rw [posG_eq (k := l.length - i) (by omega) hpi.2 (fun a h0 ha => by rw [hu] at ha; cases ha; omega)]) | exact qL (by rw [posG_eq (k := l.length - i) (by omega) hpi.2 (fun a h0 ha => by omega)]))) SubT.nil))) (SubO.cons (qR E (by rfl)) (SubO.cons (qR E (by rfl)) SubO.nil)) E E (LOq hL E))
    have m10 := l10
    try simp only[↓cqA,cqB]at m10
    refine qZ 9 mixed E E E E (qf E zD (.run E (qk (.inl E) E)) (qf E zD (.run E (qj (r := .bool false) E E E (congrArg (fun b => some (Value.bool b)) l10))) (qf E zD (.run E (qk (.inl E) E)) (qf E zD (.skip E E E zD zD) (qf E zD (.skip E E E zD zD) (qf E zD (.skip E E E zD zD) (qf E zD (.skip E E E zD zD) (qf E zD (.skip E E E zD zD) ?_))))))))
    refine qf E zD (.skip E E E zD zD) (qak ⟨rfl, rfl, ?_⟩); refine zY E (zY E (zA E (qg E E E) (zK (qab E (qQ (qn (qn (qX ?_))))))))
    exact qai (qB (zC E (zC E (SubT.cons (qan E (by first | exact qL (by rw [posG_eq (k := l.length - i) (by omega) hpi.2 (fun a h0 ha => by rw [hu] at ha; cases ha; omega)]) | exact qL (by rw [posG_eq (k := l.length - i) (by omega) hpi.2 (fun a h0 ha => by omega)]))) SubT.nil))) (SubO.cons (qR E (by rfl)) (SubO.cons (qR E (by rfl)) SubO.nil)) E E (LOq hL E))
  refine qd (qd ?_)
  rcases Bool.eq_false_or_eq_true (decide (((posG ordM m l : Nat) : Int) > 0)) with l24 | l24
  · have m24 := l24
    try simp only[↓cqA,cqB]at m24
    obtain ⟨u, hu⟩ := qH (l := l) (k := posG ordM m l - 1) (by omega)
    have huw := hw u (List.mem_of_getElem? hu)
    have hsm := put_same E (by omega) hu
    refine qZ 9 mixed E E E E (qf E zD (.run E (qk (.inl E) E)) (qf E zD (.run E (qj (r := .bool true) E E E (congrArg (fun b => some (Value.bool b)) l24))) (qf E zD (.run E (qk (.inl E) E)) (qf E zD (.want E E E zD (qk (.inl E) E)) (qf E zD (.want E E E zD (qk (.inl E) E)) (qf E zD (.want E E E zD (qa0 E E E (by omega))) ?_))))))
    refine qf E zD (.want E E E zD (qas E qz E E (by omega) (by omega))) (qf E zD (.want E E E zD (qbu (i := posG ordM m l - 1) (j := 0) E qV E E (by omega) (arr_get (qa9 hu)) zD zD E)) (qf E zD (.want E E E zD (qK E qV E E E E)) ?_))
    refine qak ⟨rfl, rfl, ?_⟩; refine zZ E (qY (avs := [_, _]) true E qcg E E (rOrder13_ok u m huw.2 huw.1 hm) (fun _ => rfl) E) (zZ E (qj E E E E) (zA E (qg E E E) (zK (qq E (fun c1 => ?_) (fun c1 => ?_)))))
    · try simp only[↓cqA,cqB]at c1
      have hput : putG ordM l m = l := by rw [putG, hsm, if_pos (by simpa using c1)]
      refine qd (qb (zX E (zX E (zK (qo (qm ?_))))))
      change retQ _ _ _ _ _ _ _
      refine retO (O' := [(0, _)]) (.inl E) (qh E qi) (SubO.cons E SubO.nil) ?_ ?_ (LOq hL E) ?_
      · rfl
      · rfl
      rw [hput]
      exact ⟨List.replicate (cap - (mtDs l).length) none, cap, by rw [List.length_replicate]; omega, .inl ⟨rfl, rfl⟩⟩
    try simp only[↓cqA,cqB]at c1
    have hsf : sameG ordM m l = false := by first | exact hsm | (rw [hsm]; simpa using c1)
    have hput : putG ordM l m = l.take (posG ordM m l) ++ m :: l.drop (posG ordM m l) := by rw [putG, hsf, if_neg (by decide)]
    have hpl := putG_len2 hput
    refine qr (qa (qd (qb (zX E (zA E (qa1 E qax E qbk E E) (qy E E zD (qam 38 E qz qax E E zD zD zD E E E) E (qdg 38 false 1 E E E E ?_)))))))
    refine awps_append_vw 9 (mtDs l) [qdF] qcU E E zD E E E hal.symm (by omega) (src_rowd E E) zD E (fun j x hx => arr_get hx) E (by simp; omega) zD (fun hr => ?_) (fun hr cap2 hc1 hc2 => ?_)
    · have hone : [qdF].length = 1 := rfl
      have hJ : qaz ((mtDs l).map some ++ List.replicate (cap - (mtDs l).length) none) (mtDs l).length ([qdF].map some) = (qcp l 0 qdF).map some ++ (List.replicate (cap - (mtDs l).length) (none : Option (List D))).drop 1 := by
        have hse := splice_end ((mtDs l).map some) ([qdF].map some) (r := List.replicate (cap - (mtDs l).length) none) (by simp; omega)
        rw [List.length_map] at hse
        rw [hse]; simp [qcp, mtDs]
      refine zX E (zK (qd (qd (qb (zX E (zA E (qdj E qz E) ?_)))))); refine zA E (qa0 E E E (by omega)) (zX E (zK (qv (qdq (α := List D) (l.length - posG ordM m l) (fun i y => i ≤ l.length - posG ordM m l) (fun i y => ⟨[(0, .vw 0 0 ((mtDs l).length + 1) cap), (3, .ptr 3 0), (5, iv ((posG ordM m l : Nat) : Int)), (6, iv ((l.length - i : Nat) : Int))], [(0, .arr 55 4 false ((qcp l i y).map some ++ (List.replicate (cap - (mtDs l).length) (none : Option (List D))).drop 1)), (3, .box (lift false (mtD m)))]⟩) (qdF) (by omega) ?_ (fun i y hi hpi => ?_)))))
      · exact qB (zC E (zC E (zC E (SubT.cons (qan E (by exact qL (by push_cast [qau]; omega))) SubT.nil)))) (SubO.cons (qR E (by exact congrArg (Ob.arr _ _ _) hJ)) (SubO.cons (qR E (by rfl)) SubO.nil)) E E (LOq hL E)
      have hsl := qbi l i y
      refine qd (qd (qb (zX E (zX E (zA E (qj E E E E) (zK ?_)))))); refine qq E (fun c2 => ?_) (fun c2 => ?_)
      · try simp only[↓cqA,cqB]at c2
        obtain ⟨u, hu⟩ := qH (l := l) (k := l.length - i - 1) (by omega)
        refine qr (qa (qd (qv (qb (zX E (zX E (zX E ?_))))))); refine zX E (zA E (qa0 E E E (by omega)) (zA E (qas E qz E E (by omega) (by omega)) (zA E (qbu (i := l.length - i - 1) (j := 0) E qV E E (by omega) (arr_get (shiftD_get (by omega) hu)) zD zD E) ?_)))
        refine zA E (qas E qz E E (by omega) (by omega)) ?_; refine qb6 (l.length - i) E E E qV E E (by omega) (by rw [List.length_append, List.length_map, qbi]; omega) E E E E E E ?_; refine qc ?_; refine qP ?_; refine qa ?_; refine qb ?_
        refine zX E (zA E (qa0 E E E (by omega)) (zX E (zK ?_))); refine ⟨?_, (mtD u), ?_, ?_⟩
        · omega
        · omega
        exact qB (zC E (zC E (zC E (SubT.cons (qan E (by exact qL (by omega))) SubT.nil)))) (SubO.cons (qR E (by rw [qdc (by omega)]; exact congrArg (Ob.arr _ _ _) (congrArg (fun z => List.map some z ++ _) (shiftD_next (by omega) hu)))) (SubO.cons (qR E (by rfl)) SubO.nil)) E E (LOq hL E)
      try simp only[↓cqA,cqB]at c2
      refine qQ (qn (qn (qX ?_))); refine qa (qd (qb (zX E (zX E (zA E (qK E qV E E E E) ?_)))))
      refine zA E (qas E qz E E (by omega) (by omega)) ?_; refine qb6 (posG ordM m l) E E E qV E E (by omega) (by rw [List.length_append, List.length_map, qbi]; omega) E E E E E E ?_; refine qc ?_; refine qa ?_; refine qd ?_; refine qb ?_; refine zX E ?_; refine zX E ?_; refine qc ?_; refine qa ?_; refine qo ?_
      change retQ _ _ _ _ _ _ _
      have he : (qcp l i y).set (posG ordM m l) (mtD m) = mtDs (putG ordM l m) := by
        have h1 : posG ordM m l = l.length - i := by omega
        rw [hput, h1, shiftD_set]
        simp [mtDs]
      have hpl2 := qau (putG ordM l m)
      refine retO (O' := [(0, _)]) (by first | exact .inl E | exact .inr E) (qh E qi) (SubO.cons E SubO.nil) ?_ ?_ (LOq hL E) ?_
      · rfl
      · rfl
      refine ⟨(List.replicate (cap - (mtDs l).length) (none : Option (List D))).drop 1, cap, ?_, ?_⟩
      · simp only [List.length_replicate, List.length_drop, hpl2, hpl, List.length_append]
        simp at hr
        skip
        omega
      · rw [← he, qdc (by rw [qbi]; omega), show ((qcp l i y).set (posG ordM m l) (mtD m)).length = (mtDs l).length + 1 by rw [List.length_set, qbi, hlen]]
        exact .inl ⟨rfl, rfl⟩
    exfalso; simp at hr; omega
  have m24 := l24
  try simp only[↓cqA,cqB]at m24
  have hsm : sameG ordM m l = false := put_zero (by omega)
  have hput : putG ordM l m = l.take (posG ordM m l) ++ m :: l.drop (posG ordM m l) := by rw [putG, hsm, if_neg (by decide)]
  have hpl := putG_len2 hput
  refine qZ 9 mixed E E E E (qf E zD (.run E (qk (.inl E) E)) (qf E zD (.run E (qj (r := .bool false) E E E (congrArg (fun b => some (Value.bool b)) l24))) (qf E zD (.run E (qk (.inl E) E)) (qf E zD (.skip E E E zD zD) (qf E zD (.skip E E E zD zD) (qf E zD (.skip E E E zD zD) (qf E zD (.skip E E E zD zD) (qf E zD (.skip E E E zD zD) (qf E zD (.skip E E E zD zD) ?_)))))))))
  refine qak ⟨rfl, rfl, ?_⟩; refine zY E (zY E (zA E (qg E E E) (zK (qab E (qr (qa ?_)))))); refine qd (qb (zX E (zA E (qa1 E qax E qbk E E) (qy E E zD (qam 38 E qz qax E E zD zD zD E E E) E (qdg 38 false 1 E E E E ?_)))))
  refine awps_append_vw 9 (mtDs l) [qdF] qcU E E zD E E E hal.symm (by omega) (src_rowd E E) zD E (fun j x hx => arr_get hx) E (by simp; omega) zD (fun hr => ?_) (fun hr cap2 hc1 hc2 => ?_)
  · have hone : [qdF].length = 1 := rfl
    have hJ : qaz ((mtDs l).map some ++ List.replicate (cap - (mtDs l).length) none) (mtDs l).length ([qdF].map some) = (qcp l 0 qdF).map some ++ (List.replicate (cap - (mtDs l).length) (none : Option (List D))).drop 1 := by
      have hse := splice_end ((mtDs l).map some) ([qdF].map some) (r := List.replicate (cap - (mtDs l).length) none) (by simp; omega)
      rw [List.length_map] at hse
      rw [hse]; simp [qcp, mtDs]
    refine zX E (zK (qd (qd (qb (zX E (zA E (qdj E qz E) ?_)))))); refine zA E (qa0 E E E (by omega)) (zX E (zK (qv (qdq (α := List D) (l.length - posG ordM m l) (fun i y => i ≤ l.length - posG ordM m l) (fun i y => ⟨[(0, .vw 0 0 ((mtDs l).length + 1) cap), (3, .ptr 3 0), (5, iv ((posG ordM m l : Nat) : Int)), (6, iv ((l.length - i : Nat) : Int))], [(0, .arr 55 4 false ((qcp l i y).map some ++ (List.replicate (cap - (mtDs l).length) (none : Option (List D))).drop 1)), (3, .box (lift false (mtD m)))]⟩) (qdF) (by omega) ?_ (fun i y hi hpi => ?_)))))
    · exact qB (zC E (zC E (zC E (SubT.cons (qan E (by exact qL (by push_cast [qau]; omega))) SubT.nil)))) (SubO.cons (qR E (by exact congrArg (Ob.arr _ _ _) hJ)) (SubO.cons (qR E (by rfl)) SubO.nil)) E E (LOq hL E)
    have hsl := qbi l i y
    refine qd (qd (qb (zX E (zX E (zA E (qj E E E E) (zK ?_)))))); refine qq E (fun c2 => ?_) (fun c2 => ?_)
    · try simp only[↓cqA,cqB]at c2
      obtain ⟨u, hu⟩ := qH (l := l) (k := l.length - i - 1) (by omega)
      refine qr (qa (qd (qv (qb (zX E (zX E (zX E ?_))))))); refine zX E (zA E (qa0 E E E (by omega)) (zA E (qas E qz E E (by omega) (by omega)) (zA E (qbu (i := l.length - i - 1) (j := 0) E qV E E (by omega) (arr_get (shiftD_get (by omega) hu)) zD zD E) ?_)))
      refine zA E (qas E qz E E (by omega) (by omega)) ?_; refine qb6 (l.length - i) E E E qV E E (by omega) (by rw [List.length_append, List.length_map, qbi]; omega) E E E E E E ?_; refine qc ?_; refine qP ?_; refine qa ?_; refine qb ?_
      refine zX E (zA E (qa0 E E E (by omega)) (zX E (zK ?_))); refine ⟨?_, (mtD u), ?_, ?_⟩
      · omega
      · omega
      exact qB (zC E (zC E (zC E (SubT.cons (qan E (by exact qL (by omega))) SubT.nil)))) (SubO.cons (qR E (by rw [qdc (by omega)]; exact congrArg (Ob.arr _ _ _) (congrArg (fun z => List.map some z ++ _) (shiftD_next (by omega) hu)))) (SubO.cons (qR E (by rfl)) SubO.nil)) E E (LOq hL E)
    try simp only[↓cqA,cqB]at c2
    refine qQ (qn (qn (qX ?_))); refine qa (qd (qb (zX E (zX E (zA E (qK E qV E E E E) ?_)))))
    refine zA E (qas E qz E E (by omega) (by omega)) ?_; refine qb6 (posG ordM m l) E E E qV E E (by omega) (by rw [List.length_append, List.length_map, qbi]; omega) E E E E E E ?_; refine qc ?_; refine qa ?_; refine qd ?_; refine qb ?_; refine zX E ?_; refine zX E ?_; refine qc ?_; refine qa ?_; refine qo ?_
    change retQ _ _ _ _ _ _ _
    have he : (qcp l i y).set (posG ordM m l) (mtD m) = mtDs (putG ordM l m) := by
      have h1 : posG ordM m l = l.length - i := by omega
      rw [hput, h1, shiftD_set]
      simp [mtDs]
    have hpl2 := qau (putG ordM l m)
    refine retO (O' := [(0, _)]) (by first | exact .inl E | exact .inr E) (qh E qi) (SubO.cons E SubO.nil) ?_ ?_ (LOq hL E) ?_
    · rfl
    · rfl
    refine ⟨(List.replicate (cap - (mtDs l).length) (none : Option (List D))).drop 1, cap, ?_, ?_⟩
    · simp only [List.length_replicate, List.length_drop, hpl2, hpl, List.length_append]
      simp at hr
      skip
      omega
    · rw [← he, qdc (by rw [qbi]; omega), show ((qcp l i y).set (posG ordM m l) (mtD m)).length = (mtDs l).length + 1 by rw [List.length_set, qbi, hlen]]
      exact .inl ⟨rfl, rfl⟩
  exfalso; simp at hr; omega
theorem put13G_ok (l : List Mt) (hl : l.length ≤ 1000000) (hw : ∀ a ∈ l, a.wf ∧ ∀ x ∈ a.b, dle 5 x.t) (m : Mt) (hm : m.wf) (cap : Nat) (hcap : l.length ≤ cap) (hmax : cap ≤ maxLen) (hroom : cap < l.length + 1) :
    AC Tryz.prog 62 [.vw 0 0 (mtDs l).length cap, mtA m] [(0, .arr 55 4 false ((mtDs l).map some ++ List.replicate (cap - (mtDs l).length) none))] (fun r O => ∃ (J : List (Option (List D))) (c2 : Nat), c2 = (mtDs (putG ordM l m)).length + J.length ∧
      ((r = .vw 0 0 (mtDs (putG ordM l m)).length c2 ∧ O = [(0, .arr 55 4 false ((mtDs (putG ordM l m)).map some ++ J))]) ∨ (r = .vw 9 0 (mtDs (putG ordM l m)).length c2 ∧ O = [(9, .arr 55 4 false ((mtDs (putG ordM l m)).map some ++ J)), (0, .arr 55 4 false ((mtDs l).map some ++ List.replicate (cap - (mtDs l).length) none))]))) := by
  have hlen := qau l
  have hP := posG_le ordM m l
  have hmx : maxLen = 9223372036854775807 := rfl
  have hal : ((mtDs l).map some ++ List.replicate (cap - (mtDs l).length) (none : Option (List D))).length = cap := by simp; omega
  refine qF Tryz.func62 E Tryz.ntmps62 zL fun c hL hQ hDD => (qd (qb (qy E E zD (qaa 3 E E E) E (zX E (zK (qd ?_)))))); refine qb (zX E (zA E (qdj E qz E) (zX E (zK (qcN ⟨[(0, .vw 0 0 (mtDs l).length cap), (3, .ptr 3 0), (5, iv ((posG ordM m l : Nat) : Int))], [(0, .arr 55 4 false ((mtDs l).map some ++ List.replicate (cap - (mtDs l).length) none)), (3, .box (lift false (mtD m)))]⟩ ?_ ?_)))))
  · refine qv ?_; refine q6 (l.length) (fun i => i ≤ l.length ∧ ∀ (j : Nat) (a : Mt), l.length - i ≤ j → l[j]? = some a → 0 < ordM a m) (fun i => ⟨[(0, .vw 0 0 (mtDs l).length cap), (3, .ptr 3 0), (5, iv ((l.length - i : Nat) : Int))], [(0, .arr 55 4 false ((mtDs l).map some ++ List.replicate (cap - (mtDs l).length) none)), (3, .box (lift false (mtD m)))]⟩) (⟨by omega, fun j a hj ha => by have := (List.getElem?_eq_some_iff.1 ha).1; omega⟩) ?_ (fun i hi hpi => ?_)
    · exact qB (zC E (zC E (SubT.cons (qan E (by exact qL (by rw [hlen]; simp))) SubT.nil))) (SubO.cons (qR rfl (by rfl)) (SubO.cons (qR E (by rfl)) SubO.nil)) E E (LOq hL E)
    refine qd (qd ?_)
    rcases Bool.eq_false_or_eq_true (decide (((l.length - i : Nat) : Int) > 0)) with l10 | l10
    · have m10 := l10
      try simp only[↓cqA,cqB]at m10
      obtain ⟨u, hu⟩ := qH (l := l) (k := l.length - i - 1) (by omega)
      have huw := hw u (List.mem_of_getElem? hu)
      refine qZ 9 mixed E E E E (qf E zD (.run E (qk (.inl E) E)) (qf E zD (.run E (qj (r := .bool true) E E E (congrArg (fun b => some (Value.bool b)) l10))) (qf E zD (.run E (qk (.inl E) E)) (qf E zD (.want E E E zD (qk (.inl E) E)) (qf E zD (.want E E E zD (qk (.inl E) E)) (qf E zD (.want E E E zD (qa0 E E E (by omega))) ?_))))))
      refine qf E zD (.want E E E zD (qas E qz E E (by omega) (by omega))) (qf E zD (.want E E E zD (qbu (i := l.length - i - 1) (j := 0) E qV E E (by omega) (arr_get (qa9 hu)) zD zD E)) (qf E zD (.want E E E zD (qK E qV E E E E)) ?_))
      refine qak ⟨rfl, rfl, ?_⟩; refine zZ E (qY (avs := [_, _]) true E qcg E E (rOrder13_ok u m huw.2 huw.1 hm) (fun _ => rfl) E) (zZ E (qj E E E E) (zA E (qg E E E) (zK (qq E (fun c0 => ?_) (fun c0 => ?_)))))
      · try simp only[↓cqA,cqB]at c0
        refine qr (qa (qv (qb (zX E (zA E (qa0 E E E (by omega)) (zX E (qc ?_))))))); refine qP (qa ?_); refine ⟨?_, ?_, ?_⟩
        · omega
        · refine ⟨by omega, fun j a hj ha => ?_⟩
          by_cases hjk : l.length - i ≤ j
          · exact hpi.2 j a hjk ha
          · rw [show j = l.length - i - 1 by omega, hu] at ha; cases ha; exact c0
        exact qB (zC E (zC E (SubT.cons (qan E (by exact qL (by omega))) SubT.nil))) (SubO.cons (qR E (by rfl)) (SubO.cons (qR E (by rfl)) SubO.nil)) E E (LOq hL E)
      try simp only[↓cqA,cqB]at c0
      refine qQ (qn (qn (qX ?_)))
      exact qai (qB (zC E (zC E (SubT.cons (qan E (by first | exact qL (by rw [posG_eq (k := l.length - i) (by omega) hpi.2 (fun a h0 ha => by rw [hu] at ha; cases ha; omega)]) | exact qL (by rw [posG_eq (k := l.length - i) (by omega) hpi.2 (fun a h0 ha => by omega)]))) SubT.nil))) (SubO.cons (qR E (by rfl)) (SubO.cons (qR E (by rfl)) SubO.nil)) E E (LOq hL E))
    have m10 := l10
    try simp only[↓cqA,cqB]at m10
    refine qZ 9 mixed E E E E (qf E zD (.run E (qk (.inl E) E)) (qf E zD (.run E (qj (r := .bool false) E E E (congrArg (fun b => some (Value.bool b)) l10))) (qf E zD (.run E (qk (.inl E) E)) (qf E zD (.skip E E E zD zD) (qf E zD (.skip E E E zD zD) (qf E zD (.skip E E E zD zD) (qf E zD (.skip E E E zD zD) (qf E zD (.skip E E E zD zD) ?_))))))))
    refine qf E zD (.skip E E E zD zD) (qak ⟨rfl, rfl, ?_⟩); refine zY E (zY E (zA E (qg E E E) (zK (qab E (qQ (qn (qn (qX ?_))))))))
    exact qai (qB (zC E (zC E (SubT.cons (qan E (by first | exact qL (by rw [posG_eq (k := l.length - i) (by omega) hpi.2 (fun a h0 ha => by rw [hu] at ha; cases ha; omega)]) | exact qL (by rw [posG_eq (k := l.length - i) (by omega) hpi.2 (fun a h0 ha => by omega)]))) SubT.nil))) (SubO.cons (qR E (by rfl)) (SubO.cons (qR E (by rfl)) SubO.nil)) E E (LOq hL E))
  refine qd (qd ?_)
  rcases Bool.eq_false_or_eq_true (decide (((posG ordM m l : Nat) : Int) > 0)) with l24 | l24
  · have m24 := l24
    try simp only[↓cqA,cqB]at m24
    obtain ⟨u, hu⟩ := qH (l := l) (k := posG ordM m l - 1) (by omega)
    have huw := hw u (List.mem_of_getElem? hu)
    have hsm := put_same E (by omega) hu
    refine qZ 9 mixed E E E E (qf E zD (.run E (qk (.inl E) E)) (qf E zD (.run E (qj (r := .bool true) E E E (congrArg (fun b => some (Value.bool b)) l24))) (qf E zD (.run E (qk (.inl E) E)) (qf E zD (.want E E E zD (qk (.inl E) E)) (qf E zD (.want E E E zD (qk (.inl E) E)) (qf E zD (.want E E E zD (qa0 E E E (by omega))) ?_))))))
    refine qf E zD (.want E E E zD (qas E qz E E (by omega) (by omega))) (qf E zD (.want E E E zD (qbu (i := posG ordM m l - 1) (j := 0) E qV E E (by omega) (arr_get (qa9 hu)) zD zD E)) (qf E zD (.want E E E zD (qK E qV E E E E)) ?_))
    refine qak ⟨rfl, rfl, ?_⟩; refine zZ E (qY (avs := [_, _]) true E qcg E E (rOrder13_ok u m huw.2 huw.1 hm) (fun _ => rfl) E) (zZ E (qj E E E E) (zA E (qg E E E) (zK (qq E (fun c1 => ?_) (fun c1 => ?_)))))
    · try simp only[↓cqA,cqB]at c1
      have hput : putG ordM l m = l := by rw [putG, hsm, if_pos (by simpa using c1)]
      refine qd (qb (zX E (zX E (zK (qo (qm ?_))))))
      change retQ _ _ _ _ _ _ _
      refine retO (O' := [(0, _)]) (.inl E) (qh E qi) (SubO.cons E SubO.nil) ?_ ?_ (LOq hL E) ?_
      · rfl
      · rfl
      rw [hput]
      exact ⟨List.replicate (cap - (mtDs l).length) none, cap, by rw [List.length_replicate]; omega, .inl ⟨rfl, rfl⟩⟩
    try simp only[↓cqA,cqB]at c1
    have hsf : sameG ordM m l = false := by first | exact hsm | (rw [hsm]; simpa using c1)
    have hput : putG ordM l m = l.take (posG ordM m l) ++ m :: l.drop (posG ordM m l) := by rw [putG, hsf, if_neg (by decide)]
    have hpl := putG_len2 hput
    refine qr (qa (qd (qb (zX E (zA E (qa1 E qax E qbk E E) (qy E E zD (qam 38 E qz qax E E zD zD zD E E E) E (qdg 38 false 1 E E E E ?_)))))))
    refine awps_append_vw 9 (mtDs l) [qdF] qcU E E zD E E E hal.symm (by omega) (src_rowd E E) zD E (fun j x hx => arr_get hx) E (by simp; omega) zD (fun hr => ?_) (fun hr cap2 hc1 hc2 => ?_)
    · exfalso; simp at hr; omega
    have hone : [qdF].length = 1 := rfl
    have hJ : (mtDs l ++ [qdF]).map some ++ List.replicate (cap2 - (mtDs l ++ [qdF]).length) (none : Option (List D)) = (qcp l 0 qdF).map some ++ List.replicate (cap2 - (mtDs l ++ [qdF]).length) (none : Option (List D)) := by
      simp [qcp, mtDs]
    refine zX E (zK (qd (qd (qb (zX E (zA E (qdj E qz E) ?_)))))); refine zA E (qa0 E E E (by omega)) (zX E (zK (qv (qdq (α := List D) (l.length - posG ordM m l) (fun i y => i ≤ l.length - posG ordM m l) (fun i y => ⟨[(0, .vw 9 0 ((mtDs l).length + 1) cap2), (3, .ptr 3 0), (5, iv ((posG ordM m l : Nat) : Int)), (6, iv ((l.length - i : Nat) : Int))], [(9, .arr 55 4 false ((qcp l i y).map some ++ List.replicate (cap2 - (mtDs l ++ [qdF]).length) (none : Option (List D)))), (3, .box (lift false (mtD m))), (0, .arr 55 4 false ((mtDs l).map some ++ List.replicate (cap - (mtDs l).length) none))]⟩) (qdF) (by omega) ?_ (fun i y hi hpi => ?_)))))
    · exact qB (zC E (zC E (zC E (SubT.cons (qan E (by exact qL (by push_cast [qau]; omega))) SubT.nil)))) (SubO.cons (qR E (by exact congrArg (Ob.arr _ _ _) hJ)) (SubO.cons (qR E (by rfl)) (SubO.cons (qR E (by rfl)) SubO.nil))) E E (LOq hL E)
    have hsl := qbi l i y
    refine qd (qd (qb (zX E (zX E (zA E (qj E E E E) (zK ?_)))))); refine qq E (fun c2 => ?_) (fun c2 => ?_)
    · try simp only[↓cqA,cqB]at c2
      obtain ⟨u, hu⟩ := qH (l := l) (k := l.length - i - 1) (by omega)
      refine qr (qa (qd (qv (qb (zX E (zX E (zX E ?_))))))); refine zX E (zA E (qa0 E E E (by omega)) (zA E (qas E qz E E (by omega) (by omega)) (zA E (qbu (i := l.length - i - 1) (j := 0) E qV E E (by omega) (arr_get (shiftD_get (by omega) hu)) zD zD E) ?_)))
      refine zA E (qas E qz E E (by omega) (by omega)) ?_; refine qb6 (l.length - i) E E E qV E E (by omega) (by rw [List.length_append, List.length_map, qbi]; omega) E E E E E E ?_; refine qc ?_; refine qP ?_; refine qa ?_; refine qb ?_
      refine zX E (zA E (qa0 E E E (by omega)) (zX E (zK ?_))); refine ⟨?_, (mtD u), ?_, ?_⟩
      · omega
      · omega
      exact qB (zC E (zC E (zC E (SubT.cons (qan E (by exact qL (by omega))) SubT.nil)))) (SubO.cons (qR E (by rw [qdc (by omega)]; exact congrArg (Ob.arr _ _ _) (congrArg (fun z => List.map some z ++ _) (shiftD_next (by omega) hu)))) (SubO.cons (qR E (by rfl)) (SubO.cons (qR E (by rfl)) SubO.nil))) E E (LOq hL E)
    try simp only[↓cqA,cqB]at c2
    refine qQ (qn (qn (qX ?_))); refine qa (qd (qb (zX E (zX E (zA E (qK E qV E E E E) ?_)))))
    refine zA E (qas E qz E E (by omega) (by omega)) ?_; refine qb6 (posG ordM m l) E E E qV E E (by omega) (by rw [List.length_append, List.length_map, qbi]; omega) E E E E E E ?_; refine qc ?_; refine qa ?_; refine qd ?_; refine qb ?_; refine zX E ?_; refine zX E ?_; refine qc ?_; refine qa ?_; refine qo ?_
    change retQ _ _ _ _ _ _ _
    have he : (qcp l i y).set (posG ordM m l) (mtD m) = mtDs (putG ordM l m) := by
      have h1 : posG ordM m l = l.length - i := by omega
      rw [hput, h1, shiftD_set]
      simp [mtDs]
    have hpl2 := qau (putG ordM l m)
    refine retO (O' := [(9, _), (0, _)]) (by first | exact .inl E | exact .inr E) (qh E qi) (SubO.cons E (SubO.cons E SubO.nil)) ?_ ?_ (LOq hL E) ?_
    · rfl
    · rfl
    refine ⟨List.replicate (cap2 - (mtDs l ++ [qdF]).length) (none : Option (List D)), cap2, ?_, ?_⟩
    · simp only [List.length_replicate, List.length_drop, hpl2, hpl, List.length_append]
      simp at hr
      simp at hc1
      omega
    · rw [← he, qdc (by rw [qbi]; omega), show ((qcp l i y).set (posG ordM m l) (mtD m)).length = (mtDs l).length + 1 by rw [List.length_set, qbi, hlen]]
      exact .inr ⟨rfl, rfl⟩
  have m24 := l24
  try simp only[↓cqA,cqB]at m24
  have hsm : sameG ordM m l = false := put_zero (by omega)
  have hput : putG ordM l m = l.take (posG ordM m l) ++ m :: l.drop (posG ordM m l) := by rw [putG, hsm, if_neg (by decide)]
  have hpl := putG_len2 hput
  refine qZ 9 mixed E E E E (qf E zD (.run E (qk (.inl E) E)) (qf E zD (.run E (qj (r := .bool false) E E E (congrArg (fun b => some (Value.bool b)) l24))) (qf E zD (.run E (qk (.inl E) E)) (qf E zD (.skip E E E zD zD) (qf E zD (.skip E E E zD zD) (qf E zD (.skip E E E zD zD) (qf E zD (.skip E E E zD zD) (qf E zD (.skip E E E zD zD) (qf E zD (.skip E E E zD zD) ?_)))))))))
  refine qak ⟨rfl, rfl, ?_⟩; refine zY E (zY E (zA E (qg E E E) (zK (qab E (qr (qa ?_)))))); refine qd (qb (zX E (zA E (qa1 E qax E qbk E E) (qy E E zD (qam 38 E qz qax E E zD zD zD E E E) E (qdg 38 false 1 E E E E ?_)))))
  refine awps_append_vw 9 (mtDs l) [qdF] qcU E E zD E E E hal.symm (by omega) (src_rowd E E) zD E (fun j x hx => arr_get hx) E (by simp; omega) zD (fun hr => ?_) (fun hr cap2 hc1 hc2 => ?_)
  · exfalso; simp at hr; omega
  have hone : [qdF].length = 1 := rfl
  have hJ : (mtDs l ++ [qdF]).map some ++ List.replicate (cap2 - (mtDs l ++ [qdF]).length) (none : Option (List D)) = (qcp l 0 qdF).map some ++ List.replicate (cap2 - (mtDs l ++ [qdF]).length) (none : Option (List D)) := by
    simp [qcp, mtDs]
  refine zX E (zK (qd (qd (qb (zX E (zA E (qdj E qz E) ?_)))))); refine zA E (qa0 E E E (by omega)) (zX E (zK (qv (qdq (α := List D) (l.length - posG ordM m l) (fun i y => i ≤ l.length - posG ordM m l) (fun i y => ⟨[(0, .vw 9 0 ((mtDs l).length + 1) cap2), (3, .ptr 3 0), (5, iv ((posG ordM m l : Nat) : Int)), (6, iv ((l.length - i : Nat) : Int))], [(9, .arr 55 4 false ((qcp l i y).map some ++ List.replicate (cap2 - (mtDs l ++ [qdF]).length) (none : Option (List D)))), (3, .box (lift false (mtD m))), (0, .arr 55 4 false ((mtDs l).map some ++ List.replicate (cap - (mtDs l).length) none))]⟩) (qdF) (by omega) ?_ (fun i y hi hpi => ?_)))))
  · exact qB (zC E (zC E (zC E (SubT.cons (qan E (by exact qL (by push_cast [qau]; omega))) SubT.nil)))) (SubO.cons (qR E (by exact congrArg (Ob.arr _ _ _) hJ)) (SubO.cons (qR E (by rfl)) (SubO.cons (qR E (by rfl)) SubO.nil))) E E (LOq hL E)
  have hsl := qbi l i y
  refine qd (qd (qb (zX E (zX E (zA E (qj E E E E) (zK ?_)))))); refine qq E (fun c2 => ?_) (fun c2 => ?_)
  · try simp only[↓cqA,cqB]at c2
    obtain ⟨u, hu⟩ := qH (l := l) (k := l.length - i - 1) (by omega)
    refine qr (qa (qd (qv (qb (zX E (zX E (zX E ?_))))))); refine zX E (zA E (qa0 E E E (by omega)) (zA E (qas E qz E E (by omega) (by omega)) (zA E (qbu (i := l.length - i - 1) (j := 0) E qV E E (by omega) (arr_get (shiftD_get (by omega) hu)) zD zD E) ?_)))
    refine zA E (qas E qz E E (by omega) (by omega)) ?_; refine qb6 (l.length - i) E E E qV E E (by omega) (by rw [List.length_append, List.length_map, qbi]; omega) E E E E E E ?_; refine qc ?_; refine qP ?_; refine qa ?_; refine qb ?_
    refine zX E (zA E (qa0 E E E (by omega)) (zX E (zK ?_))); refine ⟨?_, (mtD u), ?_, ?_⟩
    · omega
    · omega
    exact qB (zC E (zC E (zC E (SubT.cons (qan E (by exact qL (by omega))) SubT.nil)))) (SubO.cons (qR E (by rw [qdc (by omega)]; exact congrArg (Ob.arr _ _ _) (congrArg (fun z => List.map some z ++ _) (shiftD_next (by omega) hu)))) (SubO.cons (qR E (by rfl)) (SubO.cons (qR E (by rfl)) SubO.nil))) E E (LOq hL E)
  try simp only[↓cqA,cqB]at c2
  refine qQ (qn (qn (qX ?_))); refine qa (qd (qb (zX E (zX E (zA E (qK E qV E E E E) ?_)))))
  refine zA E (qas E qz E E (by omega) (by omega)) ?_; refine qb6 (posG ordM m l) E E E qV E E (by omega) (by rw [List.length_append, List.length_map, qbi]; omega) E E E E E E ?_; refine qc ?_; refine qa ?_; refine qd ?_; refine qb ?_; refine zX E ?_; refine zX E ?_; refine qc ?_; refine qa ?_; refine qo ?_
  change retQ _ _ _ _ _ _ _
  have he : (qcp l i y).set (posG ordM m l) (mtD m) = mtDs (putG ordM l m) := by
    have h1 : posG ordM m l = l.length - i := by omega
    rw [hput, h1, shiftD_set]
    simp [mtDs]
  have hpl2 := qau (putG ordM l m)
  refine retO (O' := [(9, _), (0, _)]) (by first | exact .inl E | exact .inr E) (qh E qi) (SubO.cons E (SubO.cons E SubO.nil)) ?_ ?_ (LOq hL E) ?_
  · rfl
  · rfl
  refine ⟨List.replicate (cap2 - (mtDs l ++ [qdF]).length) (none : Option (List D)), cap2, ?_, ?_⟩
  · simp only [List.length_replicate, List.length_drop, hpl2, hpl, List.length_append]
    simp at hr
    simp at hc1
    omega
  · rw [← he, qdc (by rw [qbi]; omega), show ((qcp l i y).set (posG ordM m l) (mtD m)).length = (mtDs l).length + 1 by rw [List.length_set, qbi, hlen]]
    exact .inr ⟨rfl, rfl⟩
theorem isR1_ok (r : Int) (hr : 1 ≤ r ∧ r ≤ 7) (a b u v : Int) : PF 107 [iv r, .agg [iv a, iv b], .agg [iv u, iv v]] (bv (isR1 r (a, b) (u, v))) := by
 refine qF Tryz.func107 E Tryz.ntmps107 zL fun c hL hQ hDD => (qd (qb (qy E E zD (qaa 4 E E E) E (qy E E zD (qaa 5 E E E) E (zX E (zK ?_))))))
 refine qd (qd (qb (zX E (zK (qv (qd ?_)))))); refine qb (zA E (qj E E E E) (zX E (zK (qq E (fun c0 => ?_) (fun c0 => ?_)))))
 ·try simp only[↓cqA,cqB]at c0
  refine qd (qb (zA E (qe E qat E) (zA E (ql E qU E E E E E) (zA E (qe E qah E) (zA E (ql E qU E E E E E) (zA E (qj E E E E) (zX E ?_))))))); refine zK (qo (qS (qm (zI hL (qh E qi) ?_ ?_))))
  ·rfl
  refine ⟨qT ?_, rfl⟩
  simp only [isR1]
  rw [Bool.eq_iff_iff]
  repeat' split
  all_goals first | (exfalso; omega) | (simp; omega) | (simp; done)
 try simp only[↓cqA,cqB]at c0
 refine qd (qb (zA E (qj E E E E) (zX E (zK (qq E (fun c1 => ?_) (fun c1 => ?_))))))
 ·try simp only[↓cqA,cqB]at c1
  refine qd (qb (zA E (qe E qat E) (zA E (ql E qU E E E E E) (zA E (qe E qah E) (zA E (ql E qU E E E E E) (zA E (qj E E E E) (zX E ?_))))))); refine zK (qo (qS (qm (zI hL (qh E qi) ?_ ?_))))
  ·rfl
  refine ⟨qT ?_, rfl⟩
  simp only [isR1]
  rw [Bool.eq_iff_iff]
  repeat' split
  all_goals first | (exfalso; omega) | (simp; omega) | (simp; done)
 try simp only[↓cqA,cqB]at c1
 refine qd (qb (zA E (qj E E E E) (zX E (zK (qq E (fun c2 => ?_) (fun c2 => ?_))))))
 ·try simp only[↓cqA,cqB]at c2
  refine qd (qb (zA E (qe E qah E) (zA E (ql E qU E E E E E) (zA E (qe E qah E) (zA E (ql E qU E E E E E) (zA E (qj E E E E) (zX E ?_))))))); refine qt 29 E (fun g29 => ?_) (fun g29 => ?_)
  ·try simp only[↓cqA,cqB]at g29
   refine zZ E (qe E qah E) (zZ E (ql E qU E E E E E) (zZ E (qe E qat E) (zZ E (ql E qU E E E E E) (zZ E (qj E E E E) (zA E (qg E E E) (zX E (qt 36 E (fun g36 => ?_) (fun g36 => ?_))))))))
   ·try simp only[↓cqA,cqB]at g36
    refine zZ E (qe E qat E) (zZ E (ql E qU E E E E E) (zZ E (qe E qat E) (zZ E (ql E qU E E E E E) (zZ E (qj E E E E) (zA E (qg E E E) (zX E (zK (qo (qS (qm (zI hL (qh E qi) ?_ ?_)))))))))))
    ·rfl
    refine ⟨qT ?_, rfl⟩
    simp only [isR1]
    rw [Bool.eq_iff_iff]
    repeat' split
    all_goals first | (exfalso; omega) | (simp; omega) | (simp; done)
   try simp only[↓cqA,cqB]at g36
   refine zY E (zY E (zY E (zY E (zY E (zA E (qg E E E) (zX E (qc ?_))))))); refine qa (qo (qS (qm (zI hL (qh E qi) ?_ ?_))))
   ·rfl
   refine ⟨qT ?_, rfl⟩
   simp only [isR1]
   rw [Bool.eq_iff_iff]
   repeat' split
   all_goals first | (exfalso; omega) | (simp; omega) | (simp; done)
  try simp only[↓cqA,cqB]at g29
  refine zY E (zY E (zY E (zY E (zY E (zA E (qg E E E) (zX E (zY E (zY E (zY E (zY E (zY E (zA E (qg E E E) (zX E (zK (qo (qS (qm (zI hL (qh E qi) ?_ ?_))))))))))))))))))
  ·rfl
  refine ⟨qT ?_, rfl⟩
  simp only [isR1]
  rw [Bool.eq_iff_iff]
  repeat' split
  all_goals first | (exfalso; omega) | (simp; omega) | (simp; done)
 try simp only[↓cqA,cqB]at c2
 refine qd (qb (zA E (qj E E E E) (zX E (zK (qq E (fun c3 => ?_) (fun c3 => ?_))))))
 ·try simp only[↓cqA,cqB]at c3
  refine qd (qb (zA E (qe E qah E) (zA E (ql E qU E E E E E) (zA E (qe E qah E) (zA E (ql E qU E E E E E) (zA E (qj E E E E) (zX E ?_))))))); refine qt 50 E (fun g50 => ?_) (fun g50 => ?_)
  ·try simp only[↓cqA,cqB]at g50
   refine zZ E (qe E qat E) (zZ E (ql E qU E E E E E) (zZ E (qe E qat E) (zZ E (ql E qU E E E E E) (zZ E (qj E E E E) (zA E (qg E E E) (zX E (zK (qo (qS (qm (zI hL (qh E qi) ?_ ?_)))))))))))
   ·rfl
   refine ⟨qT ?_, rfl⟩
   simp only [isR1]
   rw [Bool.eq_iff_iff]
   repeat' split
   all_goals first | (exfalso; omega) | (simp; omega) | (simp; done)
  try simp only[↓cqA,cqB]at g50
  refine zY E (zY E (zY E (zY E (zY E (zA E (qg E E E) (zX E (qc ?_))))))); refine qa (qo (qS (qm (zI hL (qh E qi) ?_ ?_))))
  ·rfl
  refine ⟨qT ?_, rfl⟩
  simp only [isR1]
  rw [Bool.eq_iff_iff]
  repeat' split
  all_goals first | (exfalso; omega) | (simp; omega) | (simp; done)
 try simp only[↓cqA,cqB]at c3
 refine qd (qb (zA E (qj E E E E) (zX E (zK (qq E (fun c4 => ?_) (fun c4 => ?_))))))
 ·try simp only[↓cqA,cqB]at c4
  refine qd (qb (zA E (qe E qah E) (zA E (ql E qU E E E E E) (zA E (qe E qah E) (zA E (ql E qU E E E E E) (zA E (qj E E E E) (zX E ?_))))))); refine qt 64 E (fun g64 => ?_) (fun g64 => ?_)
  ·try simp only[↓cqA,cqB]at g64
   refine zZ E (qe E qat E) (zZ E (ql E qU E E E E E) (zZ E (qe E qat E) (zZ E (ql E qU E E E E E) (zZ E (qj E E E E) (zA E (qg E E E) (zX E (zK (qo (qS (qm (zI hL (qh E qi) ?_ ?_)))))))))))
   ·rfl
   refine ⟨qT ?_, rfl⟩
   simp only [isR1]
   rw [Bool.eq_iff_iff]
   repeat' split
   all_goals first | (exfalso; omega) | (simp; omega) | (simp; done)
  try simp only[↓cqA,cqB]at g64
  refine zY E (zY E (zY E (zY E (zY E (zA E (qg E E E) (zX E (qc ?_))))))); refine qa (qo (qS (qm (zI hL (qh E qi) ?_ ?_))))
  ·rfl
  refine ⟨qT ?_, rfl⟩
  simp only [isR1]
  rw [Bool.eq_iff_iff]
  repeat' split
  all_goals first | (exfalso; omega) | (simp; omega) | (simp; done)
 try simp only[↓cqA,cqB]at c4
 refine qd (qb (zA E (qj E E E E) (zX E (zK (qq E (fun c5 => ?_) (fun c5 => ?_))))))
 ·try simp only[↓cqA,cqB]at c5
  refine qd (qb (zA E (qe E qat E) (zA E (ql E qU E E E E E) (zA E (qe E qat E) (zA E (ql E qU E E E E E) (zA E (qj E E E E) (zX E ?_))))))); refine qt 78 E (fun g78 => ?_) (fun g78 => ?_)
  ·try simp only[↓cqA,cqB]at g78
   refine zZ E (qe E qah E) (zZ E (ql E qU E E E E E) (zZ E (qe E qah E) (zZ E (ql E qU E E E E E) (zZ E (qj E E E E) (zA E (qg E E E) (zX E (zK (qo (qS (qm (zI hL (qh E qi) ?_ ?_)))))))))))
   ·rfl
   refine ⟨qT ?_, rfl⟩
   simp only [isR1]
   rw [Bool.eq_iff_iff]
   repeat' split
   all_goals first | (exfalso; omega) | (simp; omega) | (simp; done)
  try simp only[↓cqA,cqB]at g78
  refine zY E (zY E (zY E (zY E (zY E (zA E (qg E E E) (zX E (qc ?_))))))); refine qa (qo (qS (qm (zI hL (qh E qi) ?_ ?_))))
  ·rfl
  refine ⟨qT ?_, rfl⟩
  simp only [isR1]
  rw [Bool.eq_iff_iff]
  repeat' split
  all_goals first | (exfalso; omega) | (simp; omega) | (simp; done)
 try simp only[↓cqA,cqB]at c5
 refine qd (qb (zA E (qj E E E E) (zX E (zK (qq E (fun c6 => ?_) (fun c6 => ?_))))))
 ·try simp only[↓cqA,cqB]at c6
  refine qd (qb (zA E (qK E qaO E E E E) (zA E (qK E qaO E E E E) (zA E (stp_eqSpan E E E) (zX E (zK ?_)))))); refine qo (qS (qm (zI hL (qh E qi) ?_ ?_)))
  ·rfl
  refine ⟨qT ?_, rfl⟩
  simp only [isR1]
  rw [Bool.eq_iff_iff]
  repeat' split
  all_goals first | (exfalso; omega) | (simp; omega) | (simp; done)
 try simp only[↓cqA,cqB]at c6
 omega
theorem rTurn_ok (r : Int) (hr : -1000 ≤ r ∧ r ≤ 1000) : PF 164 [iv r] (iv (14 - r)) := by
 refine qF Tryz.func164 E Tryz.ntmps164 zL fun c hL hQ hDD => (qd (qb (zX E (zK (qd (qb ?_)))))); refine zX E (zA E (qa0 E E E (by omega)) (zX E (zK (qo (zI hL (qh E qi) ?_ ?_)))))
 ·rfl
 exact ⟨rfl, rfl⟩
theorem rIs_ok (r : Int) (hr : 1 ≤ r ∧ r ≤ 13) (a b u v : Int) : PF 107 [iv r, .agg [iv a, iv b], .agg [iv u, iv v]] (bv (isR r (a, b) (u, v))) := by
 by_cases h7 : r ≤ 7
 ·rw [isR, if_pos h7]; exact isR1_ok r ⟨hr.1, h7⟩ a b u v
 ·rw [isR, if_neg h7]
  refine qF Tryz.func107 E Tryz.ntmps107 zL fun c hL hQ hDD => (qd (qb (qy E E zD (qaa 4 E E E) E (qy E E zD (qaa 5 E E E) E (zX E (zK ?_))))))
  refine qd (qd (qb (zX E (zK (qv (qd ?_)))))); refine qb (zA E (qj E E E E) (zX E (zK (qq E (fun c0 => ?_) (fun c0 => ?_)))))
  ·try simp only[↓cqA,cqB]at c0
   omega
  try simp only[↓cqA,cqB]at c0
  refine qd (qb (zA E (qj E E E E) (zX E (zK (qq E (fun c1 => ?_) (fun c1 => ?_))))))
  ·try simp only[↓cqA,cqB]at c1
   omega
  try simp only[↓cqA,cqB]at c1
  refine qd (qb (zA E (qj E E E E) (zX E (zK (qq E (fun c2 => ?_) (fun c2 => ?_))))))
  ·try simp only[↓cqA,cqB]at c2
   omega
  try simp only[↓cqA,cqB]at c2
  refine qd (qb (zA E (qj E E E E) (zX E (zK (qq E (fun c3 => ?_) (fun c3 => ?_))))))
  ·try simp only[↓cqA,cqB]at c3
   omega
  try simp only[↓cqA,cqB]at c3
  refine qd (qb (zA E (qj E E E E) (zX E (zK (qq E (fun c4 => ?_) (fun c4 => ?_))))))
  ·try simp only[↓cqA,cqB]at c4
   omega
  try simp only[↓cqA,cqB]at c4
  refine qd (qb (zA E (qj E E E E) (zX E (zK (qq E (fun c5 => ?_) (fun c5 => ?_))))))
  ·try simp only[↓cqA,cqB]at c5
   omega
  try simp only[↓cqA,cqB]at c5
  refine qd (qb (zA E (qj E E E E) (zX E (zK (qq E (fun c6 => ?_) (fun c6 => ?_))))))
  ·try simp only[↓cqA,cqB]at c6
   omega
  try simp only[↓cqA,cqB]at c6
  refine qr (qP (qa (qd (qZ 4 mixed E E E E (qf E zD (.run E (qk (.inl E) E)) (qf E zD (.run E (qY (avs := [_]) true E en_almagestref7_Turn E E (rTurn_ok r (by omega)) (fun _ => rfl) E)) (qf E zD (.run E (qK E qaO E E E E)) ?_))))))); refine qf E zD (.run E (qK E qaO E E E E)) ?_
  refine qak ⟨rfl, rfl, ?_⟩; refine qE (avs := [_, _, _]) true E E E zD qct E E (isR1_ok (14 - r) (by omega) u v a b) E E (zX E (zK (qo (zI hL (qh E qi) ?_ ?_))))
  ·rfl
  exact ⟨rfl, rfl⟩
theorem min_if (a u : Int) : min a u = (if u < a then u else a) := by rw [Int.min_def]; split <;> split <;> omega
theorem max_if (a u : Int) : max a u = (if u > a then u else a) := by rw [Int.max_def]; split <;> split <;> omega
theorem rHull_ok (a b u v : Int) : PF 108 [.agg [iv a, iv b], .agg [iv u, iv v]] (.agg [iv (min a u), iv (max b v)]) := by
 rw [min_if, max_if]
 refine qF Tryz.func108 E Tryz.ntmps108 zL fun c hL hQ hDD => (qd (qb (qy E E zD (qaa 2 E E E) E (qy E E zD (qaa 3 E E E) E (qy E E zD (qaD 4 E zv_api_Span E) E (zK ?_)))))); refine qd (qb (zA E (qe E qah E) (zA E (ql E qU E E E E E) (zA E (qe E qah E) (zA E (ql E qU E E E E E) (zA E (stp_min E E E) (zA E (qe E qat E) (zA E (ql E qU E E E E E) (zA E (qe E qat E) (zA E (ql E qU E E E E E) (zA E (stp_max E E E) (zA E (qa1 E zv_api_Span E pl_api_Span E E) (qae E E E qaO E E E E E E E E E (zK (qo ?_)))))))))))))))
 refine zI hL (qbb qaO E E E qi) ?_ ?_
 ·rfl
 exact ⟨rfl, rfl⟩
def zeroM : Mt := ⟨[], 0, 0, []⟩
theorem immDs_in (l : List Int) : immDs (inDs l) = true := by
 simp only [immDs, inDs, List.all_map, List.all_eq_true]
 intro x _; rfl
theorem inDs_len1 (l : List Int) : ∀ d ∈ inDs l, d.length = 1 := fun d hd => by
 obtain ⟨x, _, rfl⟩ := List.mem_map.1 hd; rfl
theorem zeroM_le : Le (.agg [.imm (.slice none 0 0), iv 0, iv 0, .imm (.slice none 0 0)]) (mtA zeroM) := .agg (.cons .nil (.cons .refl (.cons .refl (.cons .nil .nil))))
def joinPost (o : Option Mt) (r : AV) : Prop := (o = none ∧ r = .tup [.agg [.imm (.slice none 0 0), iv 0, iv 0, .imm (.slice none 0 0)], bv false]) ∨ ∃ m, o = some m ∧ r = .tup [mtA m, bv true]
theorem joinPost_ok {f : FuncId} {args : List AV} {o : Option Mt} (h : AC Tryz.prog f args [] (fun r O => joinPost o r ∧ O = [])) : PF f args (.tup [mtA (o.getD zeroM), bv o.isSome]) :=
 AC_leP h (fun r O' h => by
  obtain ⟨⟨rfl, rfl⟩ | ⟨m, rfl, rfl⟩, rfl⟩ := h
  ·exact ⟨_, .tup (.cons zeroM_le (.cons .refl .nil)), rfl, rfl⟩
  ·exact ⟨_, .refl, rfl, rfl⟩)
theorem joined_no (p : Pt) (a b : Mt) (cl : List Mt) (hr : p.kind = 6 → 1 ≤ p.rel ∧ p.rel ≤ 13) (hl : liesB p.kind p.rel a b = false) : AC Tryz.prog 63 [ptA false p, mtA a, mtA b, .dat false 4 (mtDs cl)] [] (fun r O => joinPost (qb9 p.kind p.rel cl a b) r ∧ O = []) := by
 have hno : qb9 p.kind p.rel cl a b = none := by rw [qb9, hl, if_neg (by decide)]
 rw [hno]
 refine qF Tryz.func63 E Tryz.ntmps63 zL fun c hL hQ hDD => (qd (qb (qy E E zD (qaa 4 E E E) E (qy E E zD (qaa 5 E E E) E (qy E E zD (qaa 6 E E E) E (qy E E zD (qaD 8 E qax E) E (zX E ?_))))))); refine zK (qd (qd (qb ?_)))
 refine zA E (qe E qao E) (zA E (ql E qU E E E E E) (zK (qv (qd (qd (qb ?_)))))); refine zA E (qj E E E E) (zX E (zK (qq E (fun c0 => ?_) (fun c0 => ?_))))
 ·try simp only[↓cqA,cqB]at c0
  refine qr (qa (qq E (fun c1 => ?_) (fun c1 => ?_)))
  ·try simp only[↓cqA,cqB]at c1
   refine qd (qb (zA E (qe E q9 E) (zA E (qe E qat E) (zA E (ql E qU E E E E E) (zA E (qe E q9 E) (zA E (qe E qah E) (zA E (ql E qU E E E E E) (zA E (qj E E E E) (zK (qq E (fun c2 => ?_) (fun c2 => ?_)))))))))))
   ·try simp only[↓cqA,cqB]at c2
    refine qd (qb (zA E (qa1 E qax E qbk E E) (qae E E E qV E E E E E E E E E (zX E (zK (qo ?_)))))); refine qS (qm (zI hL (qbb qV E E E (qh E qi)) ?_ ?_))
    ·rfl
    exact ⟨.inl ⟨rfl, rfl⟩, rfl⟩
   try simp only[↓cqA,cqB]at c2
   exfalso
   rw [liesB] at hl
   rw [if_pos (show p.kind = 2 ∨ p.kind = 5 by omega)] at hl
   simp at hl
   omega
  try simp only[↓cqA,cqB]at c1
  refine qd (qb (zA E (qj E E E E) (zX E (zK (qq E (fun c3 => ?_) (fun c3 => ?_))))))
  ·try simp only[↓cqA,cqB]at c3
   refine qd (qb (zA E (qe E qa7 E) (zA E (ql E qU E E E E E) (zA E (qe E q9 E) (zA E (ql E qaO E E E E E) (zA E (qe E q9 E) (zA E (ql E qaO E E E E E) (qE (avs := [_, _, _]) true E E E zD qct E E (rIs_ok p.rel (hr (by assumption)) a.fr a.to b.fr b.to) E E (zA E (qal E E) (zK (qq E (fun c4 => ?_) (fun c4 => ?_))))))))))))
   ·try simp only[↓cqA,cqB]at c4
    refine qd (qb (zA E (qa1 E qax E qbk E E) (qae E E E qV E E E E E E E E E (zX E (zK (qo ?_)))))); refine qS (qm (zI hL (qbb qV E E E (qh E qi)) ?_ ?_))
    ·rfl
    exact ⟨.inl ⟨rfl, rfl⟩, rfl⟩
   try simp only[↓cqA,cqB]at c4
   exfalso
   rw [liesB, if_neg (by omega), if_pos (by assumption)] at hl
   rw [hl] at c4; cases c4
  try simp only[↓cqA,cqB]at c3
  exfalso
  rw [liesB, if_neg (by omega), if_neg (by assumption)] at hl
  cases hl
 try simp only[↓cqA,cqB]at c0
 refine qb (zA E (qj E E E E) (zX E (zK (qq E (fun c1 => ?_) (fun c1 => ?_)))))
 ·try simp only[↓cqA,cqB]at c1
  refine qd (qb (zA E (qe E q9 E) (zA E (qe E qat E) (zA E (ql E qU E E E E E) (zA E (qe E q9 E) (zA E (qe E qah E) (zA E (ql E qU E E E E E) (zA E (qj E E E E) (zK (qq E (fun c2 => ?_) (fun c2 => ?_)))))))))))
  ·try simp only[↓cqA,cqB]at c2
   refine qd (qb (zA E (qa1 E qax E qbk E E) (qae E E E qV E E E E E E E E E (zX E (zK (qo ?_)))))); refine qS (qm (zI hL (qbb qV E E E (qh E qi)) ?_ ?_))
   ·rfl
   exact ⟨.inl ⟨rfl, rfl⟩, rfl⟩
  try simp only[↓cqA,cqB]at c2
  exfalso
  rw [liesB] at hl
  rw [if_pos (show p.kind = 2 ∨ p.kind = 5 by omega)] at hl
  simp at hl
  omega
 try simp only[↓cqA,cqB]at c1
 refine qd (qb (zA E (qj E E E E) (zX E (zK (qq E (fun c3 => ?_) (fun c3 => ?_))))))
 ·try simp only[↓cqA,cqB]at c3
  refine qd (qb (zA E (qe E qa7 E) (zA E (ql E qU E E E E E) (zA E (qe E q9 E) (zA E (ql E qaO E E E E E) (zA E (qe E q9 E) (zA E (ql E qaO E E E E E) (qE (avs := [_, _, _]) true E E E zD qct E E (rIs_ok p.rel (hr (by assumption)) a.fr a.to b.fr b.to) E E (zA E (qal E E) (zK (qq E (fun c4 => ?_) (fun c4 => ?_))))))))))))
  ·try simp only[↓cqA,cqB]at c4
   refine qd (qb (zA E (qa1 E qax E qbk E E) (qae E E E qV E E E E E E E E E (zX E (zK (qo ?_)))))); refine qS (qm (zI hL (qbb qV E E E (qh E qi)) ?_ ?_))
   ·rfl
   exact ⟨.inl ⟨rfl, rfl⟩, rfl⟩
  try simp only[↓cqA,cqB]at c4
  exfalso
  rw [liesB, if_neg (by omega), if_pos (by assumption)] at hl
  rw [hl] at c4; cases c4
 try simp only[↓cqA,cqB]at c3
 exfalso
 rw [liesB, if_neg (by omega), if_neg (by assumption)] at hl
 cases hl
theorem joined_yes (p : Pt) {n k q : Nat} (hn : n ≤ 1000000) (hk : k ≤ 1000000) (a b : Mt) (ha : MOk n a) (hb : MOk k b) (cl : List Mt) (hc : ∀ x ∈ cl, MOk q x) (hcl : cl.length ≤ 1000000) (hr : p.kind = 6 → 1 ≤ p.rel ∧ p.rel ≤ 13) (hl : liesB p.kind p.rel a b = true) : AC Tryz.prog 63 [ptA false p, mtA a, mtA b, .dat false 4 (mtDs cl)] [] (fun r O => joinPost (qb9 p.kind p.rel cl a b) r ∧ O = []) := by
  have hlc := qau cl
  have hga := ha.gg.gb.bok
  have hgb := hb.gg.gb.bok
  have hau := ha.ul
  have hbu := hb.ul
  have l1 := qbm a.u
  have l2 := qbm b.u
  refine qF Tryz.func63 E Tryz.ntmps63 zL fun c hL hQ hDD => (qd (qb (qy E E zD (qaa 4 E E E) E (qy E E zD (qaa 5 E E E) E (qy E E zD (qaa 6 E E E) E (qy E E zD (qaD 8 E qax E) E (zX E ?_))))))); refine zK (qcN ⟨[(3, .dat false 4 (mtDs cl)), (5, .ptr 5 0), (6, .ptr 6 0), (8, .ptr 8 0)], [(5, .box (lift false (mtD a))), (6, .box (lift false (mtD b))), (8, .box [.imm (.slice none 0 0), iv 0, iv 0, .imm (.slice none 0 0)])]⟩ ?_ ?_)
  · refine qd (qb (zA E (qe E qao E) (zA E (ql E qU E E E E E) (zK (qv (qd ?_)))))); refine qd (qb (zA E (qj E E E E) (zX E (zK (qq E (fun c0 => ?_) (fun c0 => ?_))))))
    · try simp only[↓cqA,cqB]at c0
      refine qr (qa (qq E (fun c1 => ?_) (fun c1 => ?_)))
      · try simp only[↓cqA,cqB]at c1
        refine qd (qb (zA E (qe E q9 E) (zA E (qe E qat E) (zA E (ql E qU E E E E E) (zA E (qe E q9 E) (zA E (qe E qah E) (zA E (ql E qU E E E E E) (zA E (qj E E E E) (zK (qq E (fun c2 => ?_) (fun c2 => ?_)))))))))))
        · try simp only[↓cqA,cqB]at c2
          exfalso
          rw [liesB] at hl
          rw [if_pos (show p.kind = 2 ∨ p.kind = 5 by omega)] at hl
          simp at hl
          omega
        try simp only[↓cqA,cqB]at c2
        refine qr (qP ?_)
        exact qai (qB (zC E (zC E (zC E (zC E SubT.nil)))) (SubO.cons (qR E (by rfl)) (SubO.cons (qR E (by rfl)) (SubO.cons (qR E (by rfl)) SubO.nil))) E E (noL' (noL hL) _))
      try simp only[↓cqA,cqB]at c1
      refine qd (qb (zA E (qj E E E E) (zX E (zK (qq E (fun c3 => ?_) (fun c3 => ?_))))))
      · try simp only[↓cqA,cqB]at c3
        refine qd (qb (zA E (qe E qa7 E) (zA E (ql E qU E E E E E) (zA E (qe E q9 E) (zA E (ql E qaO E E E E E) (zA E (qe E q9 E) (zA E (ql E qaO E E E E E) (qE (avs := [_, _, _]) true E E E zD qct E E (rIs_ok p.rel (hr (by assumption)) a.fr a.to b.fr b.to) E E (zA E (qal E E) (zK (qq E (fun c4 => ?_) (fun c4 => ?_))))))))))))
        · try simp only[↓cqA,cqB]at c4
          exfalso
          rw [liesB, if_neg (by omega), if_pos (by assumption)] at hl
          rw [hl] at c4; cases c4
        try simp only[↓cqA,cqB]at c4
        refine qr (qP ?_)
        exact qai (qB (zC E (zC E (zC E (zC E SubT.nil)))) (SubO.cons (qR E (by rfl)) (SubO.cons (qR E (by rfl)) (SubO.cons (qR E (by rfl)) SubO.nil))) E E (noL' (noL hL) _))
      try simp only[↓cqA,cqB]at c3
      refine qr (qP ?_)
      exact qai (qB (zC E (zC E (zC E (zC E SubT.nil)))) (SubO.cons (qR E (by rfl)) (SubO.cons (qR E (by rfl)) (SubO.cons (qR E (by rfl)) SubO.nil))) E E (noL' (noL hL) _))
    try simp only[↓cqA,cqB]at c0
    refine qb (zA E (qj E E E E) (zX E (zK (qq E (fun c1 => ?_) (fun c1 => ?_)))))
    · try simp only[↓cqA,cqB]at c1
      refine qd (qb (zA E (qe E q9 E) (zA E (qe E qat E) (zA E (ql E qU E E E E E) (zA E (qe E q9 E) (zA E (qe E qah E) (zA E (ql E qU E E E E E) (zA E (qj E E E E) (zK (qq E (fun c2 => ?_) (fun c2 => ?_)))))))))))
      · try simp only[↓cqA,cqB]at c2
        exfalso
        rw [liesB] at hl
        rw [if_pos (show p.kind = 2 ∨ p.kind = 5 by omega)] at hl
        simp at hl
        omega
      try simp only[↓cqA,cqB]at c2
      refine qr (qP ?_)
      exact qai (qB (zC E (zC E (zC E (zC E SubT.nil)))) (SubO.cons (qR E (by rfl)) (SubO.cons (qR E (by rfl)) (SubO.cons (qR E (by rfl)) SubO.nil))) E E (noL' (noL hL) _))
    try simp only[↓cqA,cqB]at c1
    refine qd (qb (zA E (qj E E E E) (zX E (zK (qq E (fun c3 => ?_) (fun c3 => ?_))))))
    · try simp only[↓cqA,cqB]at c3
      refine qd (qb (zA E (qe E qa7 E) (zA E (ql E qU E E E E E) (zA E (qe E q9 E) (zA E (ql E qaO E E E E E) (zA E (qe E q9 E) (zA E (ql E qaO E E E E E) (qE (avs := [_, _, _]) true E E E zD qct E E (rIs_ok p.rel (hr (by assumption)) a.fr a.to b.fr b.to) E E (zA E (qal E E) (zK (qq E (fun c4 => ?_) (fun c4 => ?_))))))))))))
      · try simp only[↓cqA,cqB]at c4
        exfalso
        rw [liesB, if_neg (by omega), if_pos (by assumption)] at hl
        rw [hl] at c4; cases c4
      try simp only[↓cqA,cqB]at c4
      refine qr (qP ?_)
      exact qai (qB (zC E (zC E (zC E (zC E SubT.nil)))) (SubO.cons (qR E (by rfl)) (SubO.cons (qR E (by rfl)) (SubO.cons (qR E (by rfl)) SubO.nil))) E E (noL' (noL hL) _))
    try simp only[↓cqA,cqB]at c3
    refine qr (qP ?_)
    exact qai (qB (zC E (zC E (zC E (zC E SubT.nil)))) (SubO.cons (qR E (by rfl)) (SubO.cons (qR E (by rfl)) (SubO.cons (qR E (by rfl)) SubO.nil))) E E (noL' (noL hL) _))
  refine qd (qb (zA E (qe E qaA E) (zA E (ql E qap E E E E E) (zA E (qe E qaA E) (zA E (ql E qap E E E E E) (qE (avs := [_, _]) true E E E zD qdw E E (rJoin_ok a.b b.b hga hgb) E E (zX E (zA E (qay E E E) (zA E (qay E E E) (zX E ?_))))))))))
  refine zX E (zK (qd (qd (qb (zX E (zA E (qj E E E E) ?_)))))); refine zK (qq E (fun c5 => ?_) (fun c5 => ?_))
  · try simp only[↓cqA,cqB]at c5
    have hno : qb9 p.kind p.rel cl a b = none := by rw [qb9, hl, if_pos rfl, if_neg c5]
    refine qd (qb (zA E (qa1 E qax E qbk E E) (qae E E E qV E E E E E E E E E (zX E (zK (qo ?_)))))); refine qm (zI hL (qbb qV E E E (qh E qi)) ?_ ?_)
    · rfl
    refine ⟨?_, rfl⟩
    first
      | (rw [hno]; exact .inl ⟨rfl, rfl⟩)
      | (rw [hyes]; refine .inr ⟨_, rfl, ?_⟩
         simp only [mtA, mtD, inDs, List.map_append]; rfl)
  try simp only[↓cqA,cqB]at c5
  have hgl := bothL_gg ha.gg hb.gg
  refine qr (qa (qd (qd (qb (zX E (zK ?_)))))); refine qv (q6 (cl.length) (fun i => i ≤ cl.length ∧ ∀ x ∈ cl.take i, barB (bothL a.b b.b) a b x = false) (fun i => ⟨[(3, .dat false 4 (mtDs cl)), (5, .ptr 5 0), (6, .ptr 6 0), (8, .ptr 8 0), (10, .dat true 5 (bdDs (bothL a.b b.b))), (12, iv (i : Int))], [(5, .box (lift false (mtD a))), (6, .box (lift false (mtD b))), (8, .box [.imm (.slice none 0 0), iv 0, iv 0, .imm (.slice none 0 0)])]⟩) (⟨by omega, fun x hx => by simp at hx⟩) ?_ (fun i hi hpi => ?_))
  · exact zR hL (zC E (zC E (zC E (zC E (zC E (zC E SubT.nil)))))) (SubO.cons (qR E (by rfl)) (SubO.cons (qR E (by rfl)) (SubO.cons (qR E (by rfl)) SubO.nil)))
  refine qd (qd (qb (zX E (zX E (zA E (qu E qz E) (zA E (qj E E E E) (qc ?_))))))); refine qa (qq E (fun c6 => ?_) (fun c6 => ?_))
  · try simp only[↓cqA,cqB]at c6
    obtain ⟨x, hx⟩ := qH (l := cl) (k := i) (by omega)
    have hxm := hc x (List.mem_of_getElem? hx)
    refine qr (qa (qd (qv (qd (qb (zX E (zX E ?_))))))); refine zX E (zA E (qp E qz E E (by omega) (qa9 hx)) (zA E (qA E qaA E) (zA E (qN E qap E) ?_)))
    refine qE (avs := [_, _]) true E E E zD qdw E E (rJoin_ok (bothL a.b b.b) x.b hgl.gb.bok hxm.gg.gb.bok) E E (zX E (zA E (qay E E E) (zA E (qay E E E) (zX E (zX E (zK ?_)))))); refine qd ?_
    rcases Bool.eq_false_or_eq_true (decide (bothE (bothL a.b b.b) x.b = 0)) with l67 | l67
    · have m67 := l67
      try simp only[↓cqA,cqB]at m67
      rcases Bool.eq_false_or_eq_true (decide (x.fr > a.to)) with l78 | l78
      · have m78 := l78
        try simp only[↓cqA,cqB]at m78
        refine qZ 24 mixed E E E E (qf E zD (.run E (qk (.inl E) E)) (qf E zD (.run E (qj (r := .bool true) E E E (congrArg (fun b => some (Value.bool b)) l67))) (qf E zD (.run E (qk (.inl E) E)) (qf E zD (.want E E E zD (qk (.inl E) E)) (qf E zD (.want E E E zD (qk (.inl E) E)) (qf E zD (.want E E E zD (qp E qz E E (by omega) (qa9 hx))) (qf E zD (.want E E E zD (qA E q9 E)) (qf E zD (.want E E E zD (qA E qah E)) (qf E zD (.want E E E zD (qN E qU E)) (qf E zD (.want E E E zD (qe E q9 E)) ?_))))))))))
        refine qf E zD (.want E E E zD (qe E qat E)) (qf E zD (.want E E E zD (ql E qU E E E E E)) (qf E zD (.want E E E zD (qj (r := .bool true) E E E (congrArg (fun b => some (Value.bool b)) l78))) (qf E zD (.run E (qg E E E)) (qf E zD (.run E (qk (.inl E) E)) (qf E zD (.want E E E zD (qk (.inl E) E)) (qf E zD (.want E E E zD (qk (.inl E) E)) ?_))))))
        refine qf E zD (.want E E E zD (qp E qz E E (by omega) (qa9 hx))) (qf E zD (.want E E E zD (qA E q9 E)) (qf E zD (.want E E E zD (qA E qat E)) (qf E zD (.want E E E zD (qN E qU E)) (qf E zD (.want E E E zD (qe E q9 E)) ?_))))
        refine qf E zD (.want E E E zD (qe E qah E)) (qf E zD (.want E E E zD (ql E qU E E E E E)) (qak ⟨rfl, rfl, ?_⟩)); refine zZ E (qj E E E E) (zA E (qg E E E) (zK (qq E (fun c7 => ?_) (fun c7 => ?_))))
        · try simp only[↓cqA,cqB]at c7
          have hbar : barB (bothL a.b b.b) a b x = true := by simp_all [barB]
          have hno : qb9 p.kind p.rel cl a b = none := by
            rw [qb9, hl, if_pos rfl, if_pos (by assumption), if_pos (List.any_eq_true.2 ⟨x, List.mem_of_getElem? hx, hbar⟩)]
          refine qd (qb (zA E (qa1 E qax E qbk E E) (qae E E E qV E E E E E E E E E (zX E (zK (qo ?_)))))); refine qS (qm (qm (qS (qm (zI hL (qbb qV E E E (qh E qi)) ?_ ?_)))))
          · rfl
          refine ⟨?_, rfl⟩
          first
            | (rw [hno]; exact .inl ⟨rfl, rfl⟩)
            | (rw [hyes]; refine .inr ⟨_, rfl, ?_⟩
               simp only [mtA, mtD, inDs, List.map_append]; rfl)
        try simp only[↓cqA,cqB]at c7
        refine qr (qP (qa (qb (zX E (zA E (qJ E E E (by omega)) (zX E (qc ?_))))))); refine qa ?_; refine ⟨?_, ?_, ?_⟩
        · omega
        · refine ⟨by omega, fun y hy => ?_⟩
          rw [qac hx] at hy
          rcases List.mem_append.1 hy with hy | hy
          · exact hpi.2 y hy
          · rw [List.mem_singleton.1 hy]
            clear hpi
            simp_all [barB]
            try (intros; omega)
        exact zR hL (zC E (zC E (zC E (zC E (zC E (zC E SubT.nil)))))) (SubO.cons (qR E (by rfl)) (SubO.cons (qR E (by rfl)) (SubO.cons (qR E (by rfl)) SubO.nil)))
      have m78 := l78
      try simp only[↓cqA,cqB]at m78
      refine qZ 24 mixed E E E E (qf E zD (.run E (qk (.inl E) E)) (qf E zD (.run E (qj (r := .bool true) E E E (congrArg (fun b => some (Value.bool b)) l67))) (qf E zD (.run E (qk (.inl E) E)) (qf E zD (.want E E E zD (qk (.inl E) E)) (qf E zD (.want E E E zD (qk (.inl E) E)) (qf E zD (.want E E E zD (qp E qz E E (by omega) (qa9 hx))) (qf E zD (.want E E E zD (qA E q9 E)) (qf E zD (.want E E E zD (qA E qah E)) (qf E zD (.want E E E zD (qN E qU E)) (qf E zD (.want E E E zD (qe E q9 E)) ?_))))))))))
      refine qf E zD (.want E E E zD (qe E qat E)) (qf E zD (.want E E E zD (ql E qU E E E E E)) (qf E zD (.want E E E zD (qj (r := .bool false) E E E (congrArg (fun b => some (Value.bool b)) l78))) (qf E zD (.run E (qg E E E)) (qf E zD (.run E (qk (.inl E) E)) (qf E zD (.skip E E E zD zD) (qf E zD (.skip E E E zD zD) (qf E zD (.skip E E E zD zD) (qf E zD (.skip E E E zD zD) (qf E zD (.skip E E E zD zD) (qf E zD (.skip E E E zD zD) ?_))))))))))
      refine qf E zD (.skip E E E zD zD) (qf E zD (.skip E E E zD zD) (qf E zD (.skip E E E zD zD) (qak ⟨rfl, rfl, ?_⟩))); refine zY E ?_
      refine zA E (qg E E E) (zK (qab E (qr (qP (qa (qb ?_)))))); refine zX E (zA E (qJ E E E (by omega)) (zX E (zK ?_))); refine ⟨?_, ?_, ?_⟩
      · omega
      · refine ⟨by omega, fun y hy => ?_⟩
        rw [qac hx] at hy
        rcases List.mem_append.1 hy with hy | hy
        · exact hpi.2 y hy
        · rw [List.mem_singleton.1 hy]
          clear hpi
          simp_all [barB]
          try (intros; omega)
      exact zR hL (zC E (zC E (zC E (zC E (zC E (zC E SubT.nil)))))) (SubO.cons (qR E (by rfl)) (SubO.cons (qR E (by rfl)) (SubO.cons (qR E (by rfl)) SubO.nil)))
    have m67 := l67
    try simp only[↓cqA,cqB]at m67
    refine qZ 24 mixed E E E E (qf E zD (.run E (qk (.inl E) E)) (qf E zD (.run E (qj (r := .bool false) E E E (congrArg (fun b => some (Value.bool b)) l67))) (qf E zD (.run E (qk (.inl E) E)) (qf E zD (.skip E E E zD zD) (qf E zD (.skip E E E zD zD) (qf E zD (.skip E E E zD zD) (qf E zD (.skip E E E zD zD) (qf E zD (.skip E E E zD zD) (qf E zD (.skip E E E zD zD) (qf E zD (.skip E E E zD zD) (qf E zD (.skip E E E zD zD) (qf E zD (.skip E E E zD zD) (qf E zD (.skip E E E zD zD) ?_)))))))))))))
    refine qf E zD (.run E (qg E E E)) (qf E zD (.run E (qk (.inl E) E)) (qf E zD (.skip E E E zD zD) (qf E zD (.skip E E E zD zD) (qf E zD (.skip E E E zD zD) (qf E zD (.skip E E E zD zD) (qf E zD (.skip E E E zD zD) (qf E zD (.skip E E E zD zD) (qf E zD (.skip E E E zD zD) (qf E zD (.skip E E E zD zD) ?_)))))))))
    refine qf E zD (.skip E E E zD zD) (qak ⟨rfl, rfl, ?_⟩); refine zY E (zA E (qg E E E) (zK (qab E (qr (qP (qa ?_)))))); refine qb ?_
    refine zX E (zA E (qJ E E E (by omega)) (zX E (zK ?_))); refine ⟨?_, ?_, ?_⟩
    · omega
    · refine ⟨by omega, fun y hy => ?_⟩
      rw [qac hx] at hy
      rcases List.mem_append.1 hy with hy | hy
      · exact hpi.2 y hy
      · rw [List.mem_singleton.1 hy]
        clear hpi
        simp_all [barB]
        try (intros; omega)
    exact zR hL (zC E (zC E (zC E (zC E (zC E (zC E SubT.nil)))))) (SubO.cons (qR E (by rfl)) (SubO.cons (qR E (by rfl)) (SubO.cons (qR E (by rfl)) SubO.nil)))
  try simp only[↓cqA,cqB]at c6
  refine qQ (qn (qn (qX ?_))); refine qa (qd ?_)
  have hany : cl.any (barB (bothL a.b b.b) a b) = false := List.any_eq_false.2 fun x hx => by
    have h := hpi.2
    rw [List.take_of_length_le (by omega)] at h
    rw [h x hx]; exact Bool.noConfusion
  have hyes : qb9 p.kind p.rel cl a b = some ⟨bothL a.b b.b, min a.fr b.fr, max a.to b.to, a.u ++ b.u⟩ := by
    rw [qb9, hl, if_pos rfl, if_pos (by assumption), hany, if_neg (by decide)]
  refine qZ 12 mixed E E E E (qf E zD (.run E (qk (.inl E) E)) (qf E zD (.run E (qe E q9 E)) (qf E zD (.run E (ql E qaO E E E E E)) (qf E zD (.run E (qe E q9 E)) (qf E zD (.run E (ql E qaO E E E E E)) (qf E zD (.run E (qY (avs := [_, _]) true E en_almagestref7_Hull E E (rHull_ok a.fr a.to b.fr b.to) (fun _ => rfl) E)) (qf E zD (.run E (qe E qaY E)) (qf E zD (.run E (ql E qbM E E E E E)) (MGo_u E E zD (qcD (avs := [_]) true E en_almagestref0_CopyNumbers E E (AC_rnE 3 77 (CopyNumbers_ok true a.u (by omega))) (fun _ => rfl) E) (qf E zD (.run E (qe E qaY E)) ?_))))))))))
  refine qf E zD (.run E (ql E qbM E E E E E)) (MGo_u E E zD (stpU_appendi 104 ta_S_int E E E E (immDs_in _) E (noL hL _) (inDs_len1 _) (by omega) E) ?_)
  refine qak ⟨rfl, rfl, ?_⟩; refine qaB (qa4 (l := 104) E zD (noL hL _) E E) (qaB (sub_untag hQ) (zA E (qa1 E qax E qbk E E) (qae E E E qV E E E E E E E E E (zX E (zK (qo (zI hL (qbb qV E E E (qh E qi)) ?_ ?_)))))))
  · rfl
  refine ⟨?_, rfl⟩
  first
    | (rw [hno]; exact .inl ⟨rfl, rfl⟩)
    | (rw [hyes]; refine .inr ⟨_, rfl, ?_⟩
       simp only [mtA, mtD, inDs, List.map_append]; rfl)
end Go.Proofs.YtpgceiijoedppaaGreat
