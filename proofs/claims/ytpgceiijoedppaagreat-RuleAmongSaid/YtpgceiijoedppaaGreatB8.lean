/- Part 8 of the proof: Ff, Fg, Fh. -/
import Derived.Test.YtpgceiijoedppaaGreatB7
set_option linter.unusedVariables false
set_option linter.unusedSimpArgs false
set_option maxRecDepth 8000
namespace Go.Proofs.YtpgceiijoedppaaGreat
open Go
theorem mayL_size (d : Nat) (ih : ∀ (t : Tm) (n : Int), 0 ≤ n → n ≤ 24 → ((mayS d t n).1 = true ↔ qbt d t ≤ n) ∧ ((mayS d t n).1 = true → (mayS d t n).2 = n - qbt d t)) : ∀ (l : List Tm) (k n : Int), 0 ≤ k → k ≤ n → n ≤ 24 → ((mayL (mayS d) l (n - k)).1 = true ↔ qcV (qbt d) k l ≤ n) ∧ ((mayL (mayS d) l (n - k)).1 = true → (mayL (mayS d) l (n - k)).2 = n - qcV (qbt d) k l)
  | [], k, n, h0, h1, h2 => by simp [mayL, qcV]; omega
  | a :: l, k, n, h0, h1, h2 => by
    have h3 := ih a (n - k) (by omega) (by omega)
    have h4 := sizeS_ge d a
    simp only [mayL, qcV]
    rw [if_pos (show k ≤ 24 by omega)]
    by_cases hb : (mayS d a (n - k)).1 = true
    · rw [if_pos hb, h3.2 hb, show n - k - qbt d a = n - (k + qbt d a) by omega]
      exact mayL_size d ih l (k + qbt d a) n (by omega) (by have := h3.1.1 hb; omega) h2
    · rw [if_neg hb]
      have h5 : ¬ qbt d a ≤ n - k := fun h => hb (h3.1.2 h)
      have h6 := sizeL_ge (qbt d) (fun t => by have := sizeS_ge d t; omega) (k + qbt d a) l
      simp; omega
theorem mayS_size : ∀ (d : Nat) (t : Tm) (n : Int), 0 ≤ n → n ≤ 24 → ((mayS d t n).1 = true ↔ qbt d t ≤ n) ∧ ((mayS d t n).1 = true → (mayS d t n).2 = n - qbt d t)
  | 0, t, n, h0, h1 => by simp [mayS, qbt]; omega
  | d + 1, t, n, h0, h1 => by
    have hge := sizeS_ge (d + 1) t
    by_cases hn : n - 1 < 0
    · rw [mayS, if_pos hn]; simp; omega
    rw [mayS, if_neg hn]
    by_cases k1 : t.kind = 1
    · rw [if_pos k1, qbt, if_pos k1]
      simp only [Bool.and_eq_true, decide_eq_true_eq]
      split
      · rename_i h; simp [h]; omega
      · rename_i h; refine ⟨⟨fun hh => absurd ⟨hh.1.1, hh.1.2, hh.2⟩ h, fun hh => by omega⟩, fun hh => absurd ⟨hh.1.1, hh.1.2, hh.2⟩ h⟩
    rw [if_neg k1, qbt, if_neg k1]
    by_cases k2 : t.kind = 2
    · rw [if_pos k2, if_pos k2]
      simp only [Bool.and_eq_true, decide_eq_true_eq, numB]
      split
      · rename_i h; simp [h]; omega
      · rename_i h; refine ⟨⟨fun hh => absurd ⟨hh.1.2, hh.1.1, hh.2⟩ h, fun hh => by omega⟩, fun hh => absurd ⟨hh.1.2, hh.1.1, hh.2⟩ h⟩
    rw [if_neg k2, if_neg k2]
    by_cases k3 : t.kind = 3
    · rw [if_pos k3, if_pos k3]
      simp only [Bool.and_eq_true, decide_eq_true_eq]
      by_cases hc : (nameB t.name = true ∧ t.n = 0) ∧ t.args.length ≤ 4
      · rw [if_pos hc]
        by_cases hd : 0 < t.args.length ∧ d = 0
        · rw [if_pos (by right; right; right; exact hd)]
          obtain ⟨h1', rfl⟩ := hd
          cases ha : t.args with
          | nil => rw [ha] at h1'; simp at h1'
          | cons a l => simp [mayL, mayS]; omega
        · rw [if_neg (by
            rintro (h | h | h | h)
            · rw [hc.1.1] at h; cases h
            · exact h hc.1.2
            · omega
            · exact hd h)]
          exact mayL_size d (mayS_size d) t.args 1 n (by omega) (by omega) h1
      · rw [if_neg hc, if_pos (by
          by_cases e1 : nameB t.name = true
          · by_cases e2 : t.n = 0
            · right; right; left
              have : ¬ t.args.length ≤ 4 := fun h => hc ⟨⟨e1, e2⟩, h⟩
              omega
            · exact .inr (.inl e2)
          · exact .inl (by simpa using e1))]
        simp; omega
    · rw [if_neg k3, if_neg k3]; simp; omega
theorem mayT_size (t : Tm) : mayT t = decide (qbt 5 t ≤ 24) := by
 have := (mayS_size 5 t 24 (by omega) (by omega)).1
 rw [mayT, Bool.eq_iff_iff, this]; simp
theorem rTerm_ok (t : Tm) (ht : t.wf) : PF 95 [tmA false t] (bv (mayT t)) := by
 refine qF Tryz.func95 E Tryz.ntmps95 zL fun c hL hQ hDD => (qd (qb (qy E E zD (qaa 1 E E E) E (zX E (zK (qd ?_)))))); refine qb (zA E (qK E qw E E E E) (qE (avs := [_, _]) true E E E zD qdt E E (rsize_ok 5 (by omega) (by omega) 5 E t ht) E E (zA E (qj E E E E) (zX E (zK (qo (zI hL (qh E qi) ?_ ?_)))))))
 ·rfl
 refine ⟨qT ?_, rfl⟩
 rw [mayT_size]
theorem qcb {l : List ByteArray} {i : Nat} {s : ByteArray} (h : l[i]? = some s) : (qbw l)[i]? = some [.imm (.string s)] := by simp [qbw, h]
theorem strDs_snoc (l : List ByteArray) (u : ByteArray) : qbw (l ++ [u]) = qbw l ++ [[.imm (.string u)]] := by simp [qbw]
theorem qdE (l : List ByteArray) (es : List (List D)) (hes : es = qbw l) (hl : l.length ≤ 1000000) : AC Tryz.prog 98 [.dat false 1 es] [] (fun r O => r = .row 3 ∧ O = [(3, .rowd 9 1 true (qbw l))]) := by
 subst hes
 have hlen := qaX l
 refine qF Tryz.func98 E Tryz.ntmps98 zL fun c hL hQ hDD => (qd (qb (zX E (zK (qd (qb ?_)))))); refine zX E (zK (qd (qd (qb (zX E (zK (qv (q6 (l.length) (fun k => k ≤ l.length) (fun k => ⟨[(0, .dat false 1 (qbw l)), (3, .row 3), (4, iv (k : Int))], [(3, .rowd 9 1 true (qbw (l.take k)))]⟩) (by omega) ?_ (fun k hk hp => ?_)))))))))
 ·exact Sub.trans (qaU (t := 3) (l := 3) 9 1 true E E) (qB (zC E (zC E (zC E SubT.nil))) (SubO.cons (qR E (by rfl)) SubO.nil) E E (noL' (noL hL) _))
 have hl2 := qaX (l.take k)
 have hl3 : (l.take k).length ≤ l.length := by simp; omega
 refine qd (qd (qb (zX E (zX E (zA E (qu E qag E) (zA E (qj E E E E) (qc ?_))))))); refine qa (qq E (fun c0 => ?_) (fun c0 => ?_))
 ·try simp only[↓cqA,cqB]at c0
  obtain ⟨u, hu⟩ := qH (l := l) (k := k) (by omega)
  refine qr (qa (qd (qv (qb (zX E (zX E (zX E ?_))))))); refine zA E (qp E qag E E (by omega) (qcb hu)) (zA E (qN E qaf E) (qy E E zD (qam 16 E qag zv_string E E zD zD zD E E E) E (qc1 E E zD (qa5 17 qcy E E E E E E E E (noL hL _) (by omega) E) E ?_)))
  refine zX E (qc (qP (qa (qb (zX E (zA E (qJ E E E (by omega)) (zX E ?_))))))); refine zK ?_; refine ⟨?_, ?_, ?_⟩
  ·omega
  ·omega
  exact Sub.trans (qaC 17 3 (noL hL _) (noL hL _)) (qB (zC E (zC E (zC E SubT.nil))) (SubO.cons (qR E (by rw [qac hu, strDs_snoc]; rfl)) SubO.nil) E E (noL' (noL hL) _))
 try simp only[↓cqA,cqB]at c0
 refine qQ (qn (qn (qX ?_))); refine qa (qd (qb (zX E (zX E (zK (qo ?_))))))
 change retQ _ _ _ _ _ _ _
 refine retO (O' := [(3, _)]) (.inl E) (qh E qi) (SubO.cons E SubO.nil) ?_ ?_ (noL' (noL hL) _) ?_
 ·rfl
 ·rfl
 exact ⟨rfl, by rw [List.take_of_length_le (by omega)]⟩
def ltS (a b : ByteArray) : Bool := Op.bytesLess a.toList b.toList
def posS (l : List ByteArray) (x : ByteArray) : Nat := (l.takeWhile (fun s => ltS s x)).length
theorem posS_eq (x : ByteArray) : ∀ (l : List ByteArray) (k : Nat), k ≤ l.length → (∀ j s, j < k → l[j]? = some s → ltS s x = true) → (∀ s, l[k]? = some s → ltS s x = false) → posS l x = k
  | [], k, h, _, _ => by simp at h; subst h; rfl
  | a :: l, 0, _, _, h2 => by
    have := h2 a (by simp)
    simp [posS, List.takeWhile_cons, this]
  | a :: l, k + 1, h, h1, h2 => by
    have h0 := h1 0 a (by omega) (by simp)
    have ih := posS_eq x l k (by simpa using h) (fun j s hj hs => h1 (j + 1) s (by omega) (by simpa using hs)) (fun s hs => h2 s (by simpa using hs))
    simp only [posS] at ih ⊢
    rw [List.takeWhile_cons, if_pos h0, List.length_cons, ih]
def qdV (l : List ByteArray) (x : ByteArray) : List ByteArray := if l[posS l x]? = some x then l else l.take (posS l x) ++ [x] ++ l.drop (posS l x)
def qaM (a b : List ByteArray) : List ByteArray := b.foldl qdV a
theorem namesR_snoc (a b : List ByteArray) (u : ByteArray) : qaM a (b ++ [u]) = qdV (qaM a b) u := by simp [qaM]
theorem insertS_len (l : List ByteArray) (x : ByteArray) : (qdV l x).length ≤ l.length + 1 := by
 unfold qdV
 split
 ·omega
 ·simp; omega
theorem namesR_len : ∀ (b a : List ByteArray), (qaM a b).length ≤ a.length + b.length
  | [], a => by simp [qaM]
  | x :: b, a => by
    have h1 := namesR_len b (qdV a x)
    have h2 := insertS_len a x
    simp only [qaM, List.foldl_cons, List.length_cons] at h1 ⊢; omega
theorem strDs_take (l : List ByteArray) (k : Nat) : (qbw l).take k = qbw (l.take k) := by simp [qbw, List.map_take]
theorem strDs_one (l : List ByteArray) : ∀ d ∈ qbw l, d.length = 1 := fun d hd => by simp only [qbw, List.mem_map] at hd; obtain ⟨x, _, rfl⟩ := hd; rfl
theorem rNames_ok (a b : List ByteArray) (ha : a.length + b.length ≤ 1000000) : PF 53 [.dat false 1 (qbw a), .dat false 1 (qbw b)] (.dat true 1 (qbw (qaM a b))) := by
 have hla := qaX a
 have hlb := qaX b
 refine qF Tryz.func53 E Tryz.ntmps53 zL fun c hL hQ hDD => (qd (qb (zX E (zK (qd (qb ?_)))))); refine zX E (qc1 E E zD (qcD (avs := [_]) true E qbn E E (qdE a _ E (by omega)) (fun _ => rfl) E) E (zX E (zK (qd (qd (qd3 (qa4 (l := 3) E zD (noL hL _) E E) (qb (zX E (zK (qv (q6 (b.length) (fun k => k ≤ b.length) (fun k => ⟨[(1, .dat false 1 (qbw b)), (5, .dat true 1 (qbw (qaM a (b.take k)))), (6, iv (k : Int))], []⟩) (by omega) ?_ (fun k hk hp => ?_))))))))))))
 ·exact zR hL (zC E (zC E (zC E SubT.nil))) SubO.nil
 have hl1 := namesR_len (b.take k) a
 have hl2 : (b.take k).length ≤ b.length := by simp; omega
 have hl3 := qaX (qaM a (b.take k))
 refine qd (qd (qb (zX E (zX E (zA E (qu E qag E) (zA E (qj E E E E) (qc ?_))))))); refine qa (qq E (fun c0 => ?_) (fun c0 => ?_))
 ·try simp only[↓cqA,cqB]at c0
  obtain ⟨u, hu⟩ := qH (l := b) (k := k) (by omega)
  have hbk : (b.take (k + 1)).length ≤ b.length := by simp; omega
  refine qr (qa (qd (qv (qd (qb (zX E (qc ?_))))))); refine qa (qd (qv (q6 ((qaM a (b.take k)).length) (fun i => i ≤ (qaM a (b.take k)).length ∧ ∀ j s, j < i → (qaM a (b.take k))[j]? = some s → ltS s u = true) (fun i => ⟨[(1, .dat false 1 (qbw b)), (5, .dat true 1 (qbw (qaM a (b.take k)))), (6, iv (k : Int)), (7, iv (i : Int))], []⟩) (⟨by omega, fun j s hj => absurd hj (by omega)⟩) ?_ (fun i hi hpi => ?_))))
  ·exact zR hL (zC E (zC E (zC E (zC E SubT.nil)))) SubO.nil
  refine qd (qd ?_)
  rcases Bool.eq_false_or_eq_true (decide ((i : Int) < ((qbw (qaM a (b.take k))).length : Int))) with l19 | l19
  ·have m19 := l19
   try simp only[↓cqA,cqB]at m19
   obtain ⟨v, hv⟩ := qH (l := qaM a (b.take k)) (k := i) (by omega)
   refine qZ 13 mixed E E E E (qf E zD (.run E (qk (.inl E) E)) (qf E zD (.run E (qk (.inl E) E)) (qf E zD (.run E (qu E qag E)) (qf E zD (.run E (qj (r := .bool true) E E E (congrArg (fun b => some (Value.bool b)) l19))) (qf E zD (.run E (qk (.inl E) E)) (qf E zD (.want E E E zD (qk (.inl E) E)) (qf E zD (.want E E E zD (qk (.inl E) E)) (qf E zD (.want E E E zD (qp E qag E E (by omega) (qcb hv))) ?_))))))))
   refine qf E zD (.want E E E zD (qN E qaf E)) (qf E zD (.want E E E zD (qk (.inl E) E)) (qf E zD (.want E E E zD (qk (.inl E) E)) (qf E zD (.want E E E zD (qp E qag E E (by omega) (qcb hu))) (qf E zD (.want E E E zD (qN E qaf E)) ?_))))
   refine qak ⟨rfl, rfl, ?_⟩; refine zZ E (qbV E E E E) (zA E (qg E E E) (zK (qq E (fun c1 => ?_) (fun c1 => ?_))))
   ·try simp only[↓cqA,cqB]at c1
    refine qr (qa (qv (qb (zX E (zA E (qJ E E E (by omega)) (zX E (qc ?_))))))); refine qP (qa ?_); refine ⟨?_, ?_, ?_⟩
    ·omega
    ·refine ⟨by omega, fun j s hj hs => ?_⟩
     by_cases hji : j < i
     ·exact hpi.2 j s hji hs
     ·rw [show j = i by omega, hv] at hs; cases hs; exact c1
    exact zR hL (zC E (zC E (zC E (zC E SubT.nil)))) SubO.nil
   try simp only[↓cqA,cqB]at c1
   have hpos : posS (qaM a (b.take k)) u = i := posS_eq u _ i hpi.1 hpi.2 (fun s hs => by rw [hv] at hs; cases hs; exact c1)
   refine qQ (qn (qn (qX ?_))); refine qa (qd (qd ?_))
   rcases Bool.eq_false_or_eq_true (decide ((i : Int) < ((qbw (qaM a (b.take k))).length : Int))) with l36 | l36
   ·have m36 := l36
    try simp only[↓cqA,cqB]at m36
    obtain ⟨v, hv⟩ := qH (l := qaM a (b.take k)) (k := i) (by omega)
    refine qZ 13 mixed E E E E (qf E zD (.run E (qk (.inl E) E)) (qf E zD (.run E (qk (.inl E) E)) (qf E zD (.run E (qu E qag E)) (qf E zD (.run E (qj (r := .bool true) E E E (congrArg (fun b => some (Value.bool b)) l36))) (qf E zD (.run E (qk (.inl E) E)) (qf E zD (.want E E E zD (qk (.inl E) E)) (qf E zD (.want E E E zD (qk (.inl E) E)) (qf E zD (.want E E E zD (qp E qag E E (by omega) (qcb hv))) ?_))))))))
    refine qf E zD (.want E E E zD (qN E qaf E)) (qf E zD (.want E E E zD (qk (.inl E) E)) (qf E zD (.want E E E zD (qk (.inl E) E)) (qf E zD (.want E E E zD (qp E qag E E (by omega) (qcb hu))) (qf E zD (.want E E E zD (qN E qaf E)) ?_))))
    refine qak ⟨rfl, rfl, ?_⟩; refine zZ E (qbV E E E E) (zA E (qg E E E) (zK (qq E (fun c2 => ?_) (fun c2 => ?_))))
    ·try simp only[↓cqA,cqB]at c2
     have hins : qaM a (b.take (k + 1)) = qaM a (b.take k) := by rw [qac hu, namesR_snoc, qdV, hpos, if_pos (by rw [hv, c2])]
     refine qQ (qn (qX ?_)); refine qa (qb (zX E (zA E (qJ E E E (by omega)) (zX E (zK ?_))))); refine ⟨?_, ?_, ?_⟩
     ·omega
     ·omega
     exact zR hL (zC E (SubT.cons (qan E (by first | (rw [hins]; done) | (rw [hins2]; show AV.dat true 1 _ = AV.dat true 1 _; congr 1; simp [qbw, List.map_take, List.map_drop, List.take_of_length_le]; done))) (zC E SubT.nil))) SubO.nil
    try simp only[↓cqA,cqB]at c2
    have hno : ¬ (qaM a (b.take k))[i]? = some u := fun h => by rw [hv] at h; exact c2 (Option.some.inj h)
    refine qr (qa ?_)
    have hins2 : qaM a (b.take (k + 1)) = (qaM a (b.take k)).take i ++ [u] ++ (qaM a (b.take k)).drop i := by rw [qac hu, namesR_snoc, qdV, hpos, if_neg hno]
    refine qZ 13 mixed E E E E ?_; refine qf E zD (.run E (qk (.inl E) E)) ?_; refine qf E zD (.run E (qk (.inl E) E)) ?_; refine qf E zD (.run E (qbz (i := 0) (j := (i : Int)) E qag E (fun y h => by cases h) (fun _ => rfl) (fun y h => by cases h; rfl) (fun h => by cases h) (by omega) (by omega) (by omega))) ?_
    refine MGo_u E E zD (qcD (avs := [_]) true E qbn E E (qdE ((qaM a (b.take k)).take i) _ (by simp [strDs_take]) (by simp; omega)) (fun _ => rfl) E) ?_; refine qf E zD (.run E (qk (.inl E) E)) ?_; refine qf E zD (.run E (qk (.inl E) E)) ?_; refine qf E zD (.run E (qp E qag E E (by omega) (qcb hu))) ?_; refine qf E zD (.run E (qN E qaf E)) ?_
    refine MGo_c1 E zD (.run E (qam 56 E qag zv_string E E zD zD zD E E E)) ?_; refine MGo_u E E zD (qa5 57 qcy E E E E E E E E (noL hL _) (by rw [qaX, List.length_take]; omega) E) ?_; refine qf E zD (.run E (qk (.inl E) E)) ?_; refine qf E zD (.run E (qk (.inl E) E)) ?_
    refine qf E zD (.run E (qbz (i := (i : Int)) (j := ((qbw (qaM a (b.take k))).length : Int)) E qag E (fun y h => by cases h; rfl) (fun h => by cases h) (fun y h => by cases h) (fun _ => rfl) (by omega) (by omega) (by omega))) ?_; refine qak ⟨rfl, rfl, ?_⟩; refine qc1 E E zD (qdM 61 qcy E E E E E (noL hL _) (by intro d hd; exact strDs_one _ d (List.mem_of_mem_take (List.mem_of_mem_drop hd))) (by simp [qaX]; omega) E) E ?_
    refine zX E (qaB (qa4 (l := 61) E zD (noL hL _) E E) (qc (qP (qa (qb (zX E (zA E (qJ E E E (by omega)) ?_))))))); refine zX E (zK ?_); refine ⟨?_, ?_, ?_⟩
    ·omega
    ·omega
    exact zR hL (zC E (SubT.cons (qan E (by first | (rw [hins]; done) | (rw [hins2]; show AV.dat true 1 _ = AV.dat true 1 _; congr 1; simp [qbw, List.map_take, List.map_drop, List.take_of_length_le]; done))) (zC E SubT.nil))) SubO.nil
   have m36 := l36
   try simp only[↓cqA,cqB]at m36
   have hno : ¬ (qaM a (b.take k))[i]? = some u := fun h => by have := (List.getElem?_eq_some_iff.1 h).1; omega
   refine qZ 13 mixed E E E E (qf E zD (.run E (qk (.inl E) E)) (qf E zD (.run E (qk (.inl E) E)) (qf E zD (.run E (qu E qag E)) (qf E zD (.run E (qj (r := .bool false) E E E (congrArg (fun b => some (Value.bool b)) l36))) (qf E zD (.run E (qk (.inl E) E)) (qf E zD (.skip E E E zD zD) (qf E zD (.skip E E E zD zD) ?_)))))))
   refine qf E zD (.skip E E E zD zD) (qf E zD (.skip E E E zD zD) (qf E zD (.skip E E E zD zD) (qf E zD (.skip E E E zD zD) (qf E zD (.skip E E E zD zD) ?_))))
   refine qf E zD (.skip E E E zD zD) (qak ⟨rfl, rfl, ?_⟩); refine zY E (zA E (qg E E E) (zK (qab E (qr (qa ?_)))))
   have hins2 : qaM a (b.take (k + 1)) = (qaM a (b.take k)).take i ++ [u] ++ (qaM a (b.take k)).drop i := by rw [qac hu, namesR_snoc, qdV, hpos, if_neg hno]
   refine qZ 13 mixed E E E E ?_; refine qf E zD (.run E (qk (.inl E) E)) ?_; refine qf E zD (.run E (qk (.inl E) E)) ?_; refine qf E zD (.run E (qbz (i := 0) (j := (i : Int)) E qag E (fun y h => by cases h) (fun _ => rfl) (fun y h => by cases h; rfl) (fun h => by cases h) (by omega) (by omega) (by omega))) ?_
   refine MGo_u E E zD (qcD (avs := [_]) true E qbn E E (qdE ((qaM a (b.take k)).take i) _ (by simp [strDs_take]) (by simp; omega)) (fun _ => rfl) E) ?_; refine qf E zD (.run E (qk (.inl E) E)) ?_; refine qf E zD (.run E (qk (.inl E) E)) ?_; refine qf E zD (.run E (qp E qag E E (by omega) (qcb hu))) ?_; refine qf E zD (.run E (qN E qaf E)) ?_
   refine MGo_c1 E zD (.run E (qam 56 E qag zv_string E E zD zD zD E E E)) ?_; refine MGo_u E E zD (qa5 57 qcy E E E E E E E E (noL hL _) (by rw [qaX, List.length_take]; omega) E) ?_; refine qf E zD (.run E (qk (.inl E) E)) ?_; refine qf E zD (.run E (qk (.inl E) E)) ?_
   refine qf E zD (.run E (qbz (i := (i : Int)) (j := ((qbw (qaM a (b.take k))).length : Int)) E qag E (fun y h => by cases h; rfl) (fun h => by cases h) (fun y h => by cases h) (fun _ => rfl) (by omega) (by omega) (by omega))) ?_; refine qak ⟨rfl, rfl, ?_⟩; refine qc1 E E zD (qdM 61 qcy E E E E E (noL hL _) (by intro d hd; exact strDs_one _ d (List.mem_of_mem_take (List.mem_of_mem_drop hd))) (by simp [qaX]; omega) E) E ?_
   refine zX E (qaB (qa4 (l := 61) E zD (noL hL _) E E) (qc (qP (qa (qb (zX E (zA E (qJ E E E (by omega)) ?_))))))); refine zX E (zK ?_); refine ⟨?_, ?_, ?_⟩
   ·omega
   ·omega
   exact zR hL (zC E (SubT.cons (qan E (by first | (rw [hins]; done) | (rw [hins2]; show AV.dat true 1 _ = AV.dat true 1 _; congr 1; simp [qbw, List.map_take, List.map_drop, List.take_of_length_le]; done))) (zC E SubT.nil))) SubO.nil
  have m19 := l19
  try simp only[↓cqA,cqB]at m19
  have hpos : posS (qaM a (b.take k)) u = i := posS_eq u _ i hpi.1 hpi.2 (fun s hs => by have := (List.getElem?_eq_some_iff.1 hs).1; omega)
  refine qZ 13 mixed E E E E (qf E zD (.run E (qk (.inl E) E)) (qf E zD (.run E (qk (.inl E) E)) (qf E zD (.run E (qu E qag E)) (qf E zD (.run E (qj (r := .bool false) E E E (congrArg (fun b => some (Value.bool b)) l19))) (qf E zD (.run E (qk (.inl E) E)) (qf E zD (.skip E E E zD zD) (qf E zD (.skip E E E zD zD) ?_)))))))
  refine qf E zD (.skip E E E zD zD) (qf E zD (.skip E E E zD zD) (qf E zD (.skip E E E zD zD) (qf E zD (.skip E E E zD zD) (qf E zD (.skip E E E zD zD) ?_))))
  refine qf E zD (.skip E E E zD zD) (qak ⟨rfl, rfl, ?_⟩); refine zY E (zA E (qg E E E) (zK (qab E (qQ (qn (qn (qX ?_))))))); refine qa (qd (qd ?_))
  rcases Bool.eq_false_or_eq_true (decide ((i : Int) < ((qbw (qaM a (b.take k))).length : Int))) with l36 | l36
  ·have m36 := l36
   try simp only[↓cqA,cqB]at m36
   obtain ⟨v, hv⟩ := qH (l := qaM a (b.take k)) (k := i) (by omega)
   refine qZ 13 mixed E E E E (qf E zD (.run E (qk (.inl E) E)) (qf E zD (.run E (qk (.inl E) E)) (qf E zD (.run E (qu E qag E)) (qf E zD (.run E (qj (r := .bool true) E E E (congrArg (fun b => some (Value.bool b)) l36))) (qf E zD (.run E (qk (.inl E) E)) (qf E zD (.want E E E zD (qk (.inl E) E)) (qf E zD (.want E E E zD (qk (.inl E) E)) (qf E zD (.want E E E zD (qp E qag E E (by omega) (qcb hv))) ?_))))))))
   refine qf E zD (.want E E E zD (qN E qaf E)) (qf E zD (.want E E E zD (qk (.inl E) E)) (qf E zD (.want E E E zD (qk (.inl E) E)) (qf E zD (.want E E E zD (qp E qag E E (by omega) (qcb hu))) (qf E zD (.want E E E zD (qN E qaf E)) ?_))))
   refine qak ⟨rfl, rfl, ?_⟩; refine zZ E (qbV E E E E) (zA E (qg E E E) (zK (qq E (fun c2 => ?_) (fun c2 => ?_))))
   ·try simp only[↓cqA,cqB]at c2
    have hins : qaM a (b.take (k + 1)) = qaM a (b.take k) := by rw [qac hu, namesR_snoc, qdV, hpos, if_pos (by rw [hv, c2])]
    refine qQ (qn (qX ?_)); refine qa (qb (zX E (zA E (qJ E E E (by omega)) (zX E (zK ?_))))); refine ⟨?_, ?_, ?_⟩
    ·omega
    ·omega
    exact zR hL (zC E (SubT.cons (qan E (by first | (rw [hins]; done) | (rw [hins2]; show AV.dat true 1 _ = AV.dat true 1 _; congr 1; simp [qbw, List.map_take, List.map_drop, List.take_of_length_le]; done))) (zC E SubT.nil))) SubO.nil
   try simp only[↓cqA,cqB]at c2
   have hno : ¬ (qaM a (b.take k))[i]? = some u := fun h => by rw [hv] at h; exact c2 (Option.some.inj h)
   refine qr (qa ?_)
   have hins2 : qaM a (b.take (k + 1)) = (qaM a (b.take k)).take i ++ [u] ++ (qaM a (b.take k)).drop i := by rw [qac hu, namesR_snoc, qdV, hpos, if_neg hno]
   refine qZ 13 mixed E E E E ?_; refine qf E zD (.run E (qk (.inl E) E)) ?_; refine qf E zD (.run E (qk (.inl E) E)) ?_; refine qf E zD (.run E (qbz (i := 0) (j := (i : Int)) E qag E (fun y h => by cases h) (fun _ => rfl) (fun y h => by cases h; rfl) (fun h => by cases h) (by omega) (by omega) (by omega))) ?_
   refine MGo_u E E zD (qcD (avs := [_]) true E qbn E E (qdE ((qaM a (b.take k)).take i) _ (by simp [strDs_take]) (by simp; omega)) (fun _ => rfl) E) ?_; refine qf E zD (.run E (qk (.inl E) E)) ?_; refine qf E zD (.run E (qk (.inl E) E)) ?_; refine qf E zD (.run E (qp E qag E E (by omega) (qcb hu))) ?_; refine qf E zD (.run E (qN E qaf E)) ?_
   refine MGo_c1 E zD (.run E (qam 56 E qag zv_string E E zD zD zD E E E)) ?_; refine MGo_u E E zD (qa5 57 qcy E E E E E E E E (noL hL _) (by rw [qaX, List.length_take]; omega) E) ?_; refine qf E zD (.run E (qk (.inl E) E)) ?_; refine qf E zD (.run E (qk (.inl E) E)) ?_
   refine qf E zD (.run E (qbz (i := (i : Int)) (j := ((qbw (qaM a (b.take k))).length : Int)) E qag E (fun y h => by cases h; rfl) (fun h => by cases h) (fun y h => by cases h) (fun _ => rfl) (by omega) (by omega) (by omega))) ?_; refine qak ⟨rfl, rfl, ?_⟩; refine qc1 E E zD (qdM 61 qcy E E E E E (noL hL _) (by intro d hd; exact strDs_one _ d (List.mem_of_mem_take (List.mem_of_mem_drop hd))) (by simp [qaX]; omega) E) E ?_
   refine zX E (qaB (qa4 (l := 61) E zD (noL hL _) E E) (qc (qP (qa (qb (zX E (zA E (qJ E E E (by omega)) ?_))))))); refine zX E (zK ?_); refine ⟨?_, ?_, ?_⟩
   ·omega
   ·omega
   exact zR hL (zC E (SubT.cons (qan E (by first | (rw [hins]; done) | (rw [hins2]; show AV.dat true 1 _ = AV.dat true 1 _; congr 1; simp [qbw, List.map_take, List.map_drop, List.take_of_length_le]; done))) (zC E SubT.nil))) SubO.nil
  have m36 := l36
  try simp only[↓cqA,cqB]at m36
  have hno : ¬ (qaM a (b.take k))[i]? = some u := fun h => by have := (List.getElem?_eq_some_iff.1 h).1; omega
  refine qZ 13 mixed E E E E (qf E zD (.run E (qk (.inl E) E)) (qf E zD (.run E (qk (.inl E) E)) (qf E zD (.run E (qu E qag E)) (qf E zD (.run E (qj (r := .bool false) E E E (congrArg (fun b => some (Value.bool b)) l36))) (qf E zD (.run E (qk (.inl E) E)) (qf E zD (.skip E E E zD zD) (qf E zD (.skip E E E zD zD) ?_)))))))
  refine qf E zD (.skip E E E zD zD) (qf E zD (.skip E E E zD zD) (qf E zD (.skip E E E zD zD) (qf E zD (.skip E E E zD zD) (qf E zD (.skip E E E zD zD) ?_))))
  refine qf E zD (.skip E E E zD zD) (qak ⟨rfl, rfl, ?_⟩); refine zY E (zA E (qg E E E) (zK (qab E (qr (qa ?_)))))
  have hins2 : qaM a (b.take (k + 1)) = (qaM a (b.take k)).take i ++ [u] ++ (qaM a (b.take k)).drop i := by rw [qac hu, namesR_snoc, qdV, hpos, if_neg hno]
  refine qZ 13 mixed E E E E ?_; refine qf E zD (.run E (qk (.inl E) E)) ?_; refine qf E zD (.run E (qk (.inl E) E)) ?_; refine qf E zD (.run E (qbz (i := 0) (j := (i : Int)) E qag E (fun y h => by cases h) (fun _ => rfl) (fun y h => by cases h; rfl) (fun h => by cases h) (by omega) (by omega) (by omega))) ?_
  refine MGo_u E E zD (qcD (avs := [_]) true E qbn E E (qdE ((qaM a (b.take k)).take i) _ (by simp [strDs_take]) (by simp; omega)) (fun _ => rfl) E) ?_; refine qf E zD (.run E (qk (.inl E) E)) ?_; refine qf E zD (.run E (qk (.inl E) E)) ?_; refine qf E zD (.run E (qp E qag E E (by omega) (qcb hu))) ?_; refine qf E zD (.run E (qN E qaf E)) ?_
  refine MGo_c1 E zD (.run E (qam 56 E qag zv_string E E zD zD zD E E E)) ?_; refine MGo_u E E zD (qa5 57 qcy E E E E E E E E (noL hL _) (by rw [qaX, List.length_take]; omega) E) ?_; refine qf E zD (.run E (qk (.inl E) E)) ?_; refine qf E zD (.run E (qk (.inl E) E)) ?_
  refine qf E zD (.run E (qbz (i := (i : Int)) (j := ((qbw (qaM a (b.take k))).length : Int)) E qag E (fun y h => by cases h; rfl) (fun h => by cases h) (fun y h => by cases h) (fun _ => rfl) (by omega) (by omega) (by omega))) ?_; refine qak ⟨rfl, rfl, ?_⟩; refine qc1 E E zD (qdM 61 qcy E E E E E (noL hL _) (by intro d hd; exact strDs_one _ d (List.mem_of_mem_take (List.mem_of_mem_drop hd))) (by simp [qaX]; omega) E) E ?_
  refine zX E (qaB (qa4 (l := 61) E zD (noL hL _) E E) (qc (qP (qa (qb (zX E (zA E (qJ E E E (by omega)) ?_))))))); refine zX E (zK ?_); refine ⟨?_, ?_, ?_⟩
  ·omega
  ·omega
  exact zR hL (zC E (SubT.cons (qan E (by first | (rw [hins]; done) | (rw [hins2]; show AV.dat true 1 _ = AV.dat true 1 _; congr 1; simp [qbw, List.map_take, List.map_drop, List.take_of_length_le]; done))) (zC E SubT.nil))) SubO.nil
 try simp only[↓cqA,cqB]at c0
 refine qQ (qn (qn (qX ?_))); refine qa (qd (qb (zX E (zX E (zK (qo (zI hL (qh E qi) ?_ ?_)))))))
 ·rfl
 exact ⟨by rw [List.take_of_length_le (by omega)]; rfl, rfl⟩
def qb0 : Nat → Tm → List ByteArray
 | 0, _ => []
 | d + 1, t => if t.kind = 1 then [t.name] else t.args.foldl (fun acc u => qaM acc (qb0 d u)) []
theorem varsL_len (d : Nat) (ih : ∀ t, (qb0 d t).length ≤ nodes d t) : ∀ (l : List Tm) (acc : List ByteArray), (l.foldl (fun acc u => qaM acc (qb0 d u)) acc).length ≤ acc.length + (l.map (nodes d)).sum
  | [], acc => by simp
  | a :: l, acc => by
    have h1 := varsL_len d ih l (qaM acc (qb0 d a))
    have h2 := namesR_len (qb0 d a) acc
    have h3 := ih a
    simp only [List.foldl_cons, List.map_cons, List.sum_cons]; omega
theorem varsR_len : ∀ (d : Nat) (t : Tm), (qb0 d t).length ≤ nodes d t
  | 0, t => by simp [qb0, nodes]
  | d + 1, t => by
    have := varsL_len d (varsR_len d) t.args []
    simp only [qb0, nodes]
    split
    · simp
    · simp only [List.length_nil] at this; omega
theorem rVars_ok : ∀ (d : Nat) (t : Tm), dle d t → t.wf → nodes d t ≤ 1000000 → PF 52 [tmA false t] (.dat true 1 (qbw (qb0 d t)))
  | 0, t, h, _, _ => h.elim
  | d + 1, t, h, ht, hn => by
    have hlen := qaJ t.args
    have hal := ht.2.2.2.1
    simp only [nodes] at hn
    refine qF Tryz.func52 E Tryz.ntmps52 zL fun c hL hQ hDD => (qd (qb (qy E E zD (qaa 1 E E E) E (zX E (zK (qd ?_)))))); refine qd (qb (zA E (qe E qar E) (zA E (ql E qU E E E E E) (zA E (qj E E E E) (zK (qq E (fun c0 => ?_) (fun c0 => ?_)))))))
    · try simp only[↓cqA,cqB]at c0
      refine qd (qb (zA E (qe E qav E) (zA E (ql E qaf E E E E E) (qy E E zD (qam 10 E qag zv_string E E zD zD zD E E E) E (zX E (qdg 10 true 1 E E E E (qaB (qa4 (l := 10) E zD (noL hL _) E E) ?_))))))); refine zK (qo (qm (zI hL (qh E qi) ?_ ?_)))
      · rfl
      exact ⟨by rw [qb0, if_pos c0]; rfl, rfl⟩
    try simp only[↓cqA,cqB]at c0
    refine qr (qa (qd (qb (zX E (zK (qd ?_)))))); refine qd (qb (zX E (zK (qv (q6 (t.args.length) (fun k => k ≤ t.args.length) (fun k => ⟨[(1, .ptr 1 0), (3, .dat true 1 (qbw ((t.args.take k).foldl (fun acc u => qaM acc (qb0 d u)) []))), (4, iv (k : Int))], [(1, .box (lift false (tmD t)))]⟩) (by omega) ?_ (fun k hk hp => ?_))))))
    · exact Sub.trans (sub_nil_dat (t := 3) 1 true E) (qB (zC E (zC E (zC E SubT.nil))) (SubO.cons (qR E (by rfl)) SubO.nil) E E (noL' (noL hL) _))
    refine qd (qd (qb (zX E (zA E (qe E q8 E) (zA E (ql E q7 E E E E E) (zA E (qu E qI E) (zA E (qj E E E E) ?_))))))); refine zK (qq E (fun c1 => ?_) (fun c1 => ?_))
    · try simp only[↓cqA,cqB]at c1
      obtain ⟨u, hu⟩ := qH (l := t.args) (k := k) (by omega)
      have hum := List.mem_of_getElem? hu
      have hs1 := varsL_len d (varsR_len d) (t.args.take k) []
      have hs2 := sum_split (nodes d) hu
      have hs3 := varsR_len d u
      simp only [List.length_nil] at hs1
      refine qr (qa (qd (qv (qb (zX E (zA E (qe E q8 E) (zA E (ql E q7 E E E E E) ?_))))))); refine zX E (zA E (qp E qI E E (by omega) (qbv hu)) (zA E (qC E qw E E) (qE (avs := [_]) true E E E zD qbZ E E (rVars_ok d u (h u hum) (Tm.wfs_mem ht.2.2.2.2 hum) (by omega)) E E (qE (avs := [_, _]) true E E E zD qcv E E (rNames_ok _ _ (by omega)) E E (zX E (qc ?_))))))
      refine qP (qa (qb (zX E (zA E (qJ E E E (by omega)) (zX E (zK ?_)))))); refine ⟨?_, ?_, ?_⟩
      · omega
      · omega
      exact zR hL (zC E (SubT.cons (qan E (by rw [qac hu, List.foldl_append]; rfl)) (zC E SubT.nil))) (SubO.cons (qR E (by rfl)) SubO.nil)
    try simp only[↓cqA,cqB]at c1
    refine qQ (qn (qn (qX ?_))); refine qa (qd (qb (zX E (zX E (zK (qo (zI hL (qh E qi) ?_ ?_)))))))
    · rfl
    exact ⟨by rw [qb0, if_neg c0, List.take_of_length_le (by omega)]; rfl, rfl⟩
theorem insertS_mem (l : List ByteArray) (x y : ByteArray) : y ∈ qdV l x ↔ y ∈ l ∨ y = x := by
 unfold qdV
 split
 ·rename_i h
  have := List.mem_of_getElem? h
  constructor
  ·exact .inl
  ·rintro (h | rfl)
   ·exact h
   ·exact this
 ·have e : y ∈ l ↔ y ∈ l.take (posS l x) ∨ y ∈ l.drop (posS l x) := by
   rw [← List.mem_append, List.take_append_drop]
  simp only [List.mem_append, List.mem_singleton, e]
  constructor
  ·rintro ((h | h) | h) <;> simp [h]
  ·rintro ((h | h) | h) <;> simp [h]
theorem namesR_mem (y : ByteArray) : ∀ (b a : List ByteArray), y ∈ qaM a b ↔ y ∈ a ∨ y ∈ b
  | [], a => by simp [qaM]
  | x :: b, a => by
    have := namesR_mem y b (qdV a x)
    simp only [qaM, List.foldl_cons] at this ⊢
    rw [this, insertS_mem, List.mem_cons]
    constructor
    · rintro ((h | h) | h) <;> simp [h]
    · rintro (h | h | h) <;> simp [h]
def vok : Nat → Tm → Prop
 | 0, _ => True
 | d + 1, t => (t.kind = 1 → t.args = []) ∧ ∀ u, u ∈ t.args → vok d u
theorem noteL_mem (d : Nat) (y : ByteArray) (ih : ∀ (t : Tm) (ss : List ByteArray), y ∈ qdA d t ss ↔ y ∈ ss ∨ y ∈ qdA d t []) : ∀ (l : List Tm) (ss : List ByteArray), y ∈ l.foldl (fun s u => qdA d u s) ss ↔ y ∈ ss ∨ ∃ u, u ∈ l ∧ y ∈ qdA d u []
  | [], ss => by simp
  | a :: l, ss => by
    simp only [List.foldl_cons]
    rw [noteL_mem d y ih l (qdA d a ss), ih a ss]
    constructor
    · rintro ((h | h) | ⟨u, h1, h2⟩)
      · exact .inl h
      · exact .inr ⟨a, by simp, h⟩
      · exact .inr ⟨u, by simp [h1], h2⟩
    · rintro (h | ⟨u, h1, h2⟩)
      · exact .inl (.inl h)
      · rcases List.mem_cons.1 h1 with rfl | h1
        · exact .inl (.inr h2)
        · exact .inr ⟨u, h1, h2⟩
theorem noteS_mem : ∀ (d : Nat) (y : ByteArray) (t : Tm) (ss : List ByteArray), y ∈ qdA d t ss ↔ y ∈ ss ∨ y ∈ qdA d t []
  | 0, y, t, ss => by simp [qdA]
  | d + 1, y, t, ss => by
    simp only [qdA]
    rw [noteL_mem d y (noteS_mem d y), noteL_mem d y (noteS_mem d y) t.args (if t.kind = 1 then t.name :: [] else [])]
    split
    · simp only [List.mem_cons, List.not_mem_nil, or_false]
      constructor
      · rintro ((h | h) | h) <;> simp [h]
      · rintro (h | h | h) <;> simp [h]
    · simp
theorem varsL_mem (d : Nat) (y : ByteArray) : ∀ (l : List Tm) (acc : List ByteArray), y ∈ l.foldl (fun acc u => qaM acc (qb0 d u)) acc ↔ y ∈ acc ∨ ∃ u, u ∈ l ∧ y ∈ qb0 d u
  | [], acc => by simp
  | a :: l, acc => by
    simp only [List.foldl_cons]
    rw [varsL_mem d y l, namesR_mem]
    constructor
    · rintro ((h | h) | ⟨u, h1, h2⟩)
      · exact .inl h
      · exact .inr ⟨a, by simp, h⟩
      · exact .inr ⟨u, by simp [h1], h2⟩
    · rintro (h | ⟨u, h1, h2⟩)
      · exact .inl (.inl h)
      · rcases List.mem_cons.1 h1 with rfl | h1
        · exact .inl (.inr h2)
        · exact .inr ⟨u, h1, h2⟩
theorem varsR_note : ∀ (d : Nat) (y : ByteArray) (t : Tm), vok d t → (y ∈ qb0 d t ↔ y ∈ qdA d t [])
  | 0, y, t, _ => by simp [qb0, qdA]
  | d + 1, y, t, h => by
    simp only [qb0, qdA]
    rw [noteL_mem d y (noteS_mem d y)]
    split
    · rename_i hk
      rw [h.1 hk]; simp
    · rw [varsL_mem]
      constructor
      · rintro (h1 | ⟨u, h1, h2⟩)
        · simp at h1
        · exact .inr ⟨u, h1, (varsR_note d y u (h.2 u h1)).1 h2⟩
      · rintro (h1 | ⟨u, h1, h2⟩)
        · simp at h1
        · exact .inr ⟨u, h1, (varsR_note d y u (h.2 u h1)).2 h2⟩
theorem mayL_vok (d : Nat) (ih : ∀ (t : Tm) (n : Int), (mayS d t n).1 = true → vok d t) : ∀ (l : List Tm) (n : Int), (mayL (mayS d) l n).1 = true → ∀ u, u ∈ l → vok d u
  | [], n, _, u, hu => by simp at hu
  | a :: l, n, h, u, hu => by
    simp only [mayL] at h
    split at h
    · rename_i hb
      rcases List.mem_cons.1 hu with rfl | hu
      · exact ih _ n hb
      · exact mayL_vok d ih l _ h u hu
    · cases h
theorem mayS_vok : ∀ (d : Nat) (t : Tm) (n : Int), (mayS d t n).1 = true → vok d t
  | 0, t, n, h => trivial
  | d + 1, t, n, h => by
    have e0 : ∀ l : List Tm, l.length = 0 → l = [] := fun l h => List.eq_nil_of_length_eq_zero h
    simp only [mayS] at h
    split at h
    · cases h
    split at h
    · simp only [Bool.and_eq_true, decide_eq_true_eq] at h
      have := e0 _ h.2
      simp [vok, this]
    rename_i k1
    split at h
    · simp only [Bool.and_eq_true, decide_eq_true_eq] at h
      have := e0 _ h.2
      simp [vok, this]
    split at h
    · split at h
      · exact ⟨fun hk => absurd hk k1, mayL_vok d (mayS_vok d) t.args (n - 1) h⟩
      · cases h
    · cases h
theorem rGround_ok (t : Tm) (ht : t.wf) (hm : mayT t = true) : PF 56 [tmA false t] (bv (groundB t)) := by
 obtain ⟨h1, h2⟩ := mayT_dle hm
 have hv := mayS_vok 5 t 24 hm
 refine qF Tryz.func56 E Tryz.ntmps56 zL fun c hL hQ hDD => (qd (qb (qy E E zD (qaa 1 E E E) E (zX E (zK (qd ?_)))))); refine qb (zA E (qK E qw E E E E) (qE (avs := [_]) true E E E zD qbZ E E (rVars_ok 5 t h1 ht (by omega)) E E (zA E (qu E qag E) (zA E (qj E E E E) (zX E (zK (qo (zI hL (qh E qi) ?_ ?_))))))))
 ·rfl
 refine ⟨qT ?_, rfl⟩
 rw [qaX, natBeq0, groundB, Bool.eq_iff_iff, decide_eq_true_eq, List.length_eq_zero_iff, List.isEmpty_iff]
 constructor
 ·intro h; exact List.eq_nil_iff_forall_not_mem.2 fun s hs => by have := (varsR_note 5 s t hv).2 hs; rw [h] at this; simp at this
 ·intro h; exact List.eq_nil_iff_forall_not_mem.2 fun s hs => by have := (varsR_note 5 s t hv).1 hs; rw [h] at this; simp at this
theorem rsign_ok (x y : Int) : PF 221 [iv x, iv y] (iv (cmpI x y)) := by
 refine qF Tryz.func221 E Tryz.ntmps221 zL fun c hL hQ hDD => (qd (qb (zX E (zK (qd (qv ?_)))))); refine qd (qb (zX E (zX E (zA E (qj E E E E) (zX E (zK (qq E (fun c0 => ?_) (fun c0 => ?_))))))))
 ·try simp only[↓cqA,cqB]at c0
  refine qd (qb (zX E (zK (qo (qS (qm (zI hL (qh E qi) ?_ ?_)))))))
  ·rfl
  refine ⟨qa2 ?_, rfl⟩
  simp only [cmpI]; split <;> (try split) <;> omega
 try simp only[↓cqA,cqB]at c0
 refine qd (qb (zX E (zX E (zA E (qj E E E E) (zX E (zK ?_)))))); refine qq E (fun c1 => ?_) (fun c1 => ?_)
 ·try simp only[↓cqA,cqB]at c1
  refine qd (qb (zX E (zK (qo (qS (qm (zI hL (qh E qi) ?_ ?_)))))))
  ·rfl
  refine ⟨qa2 ?_, rfl⟩
  simp only [cmpI]; split <;> (try split) <;> omega
 try simp only[↓cqA,cqB]at c1
 refine qr (qP (qa (qd (qb (zX E (zK ?_)))))); refine qo (zI hL (qh E qi) ?_ ?_)
 ·rfl
 refine ⟨qa2 ?_, rfl⟩
 simp only [cmpI]; split <;> (try split) <;> omega
theorem cmpBytes_less : ∀ a b : List UInt8, Lib.compareBytes a b = if Op.bytesLess a b = true then -1 else if a = b then 0 else 1
  | [], [] => by simp [Lib.compareBytes, Op.bytesLess]
  | [], _ :: _ => by simp [Lib.compareBytes, Op.bytesLess]
  | _ :: _, [] => by simp [Lib.compareBytes, Op.bytesLess]
  | a :: l, b :: m => by
    have ih := cmpBytes_less l m
    simp only [Lib.compareBytes, Op.bytesLess]
    by_cases h1 : a < b
    · simp [h1]
    · by_cases h2 : b < a
      · have : a ≠ b := fun e => by subst e; exact h1 h2
        simp [h1, h2, this]
      · have : a = b := by
          rcases Nat.lt_trichotomy a.toNat b.toNat with h | h | h
          · exact absurd (UInt8.lt_iff_toNat_lt.2 h) h1
          · exact UInt8.toNat_inj.1 h
          · exact absurd (UInt8.lt_iff_toNat_lt.2 h) h2
        subst this
        simp [h1, ih]
theorem cmpS_eq (a b : ByteArray) : cmpS a b = if ltS a b = true then -1 else if a = b then 0 else 1 := by
 unfold cmpS ltS
 rw [cmpBytes_less, ByteArray.toList_eq, ByteArray.toList_eq]
 have : a.data.toList = b.data.toList ↔ a = b := by rw [← ByteArray.toList_eq, ← ByteArray.toList_eq]; exact toList_inj
 simp only [this]
theorem rtext_ok (x y : ByteArray) : PF 222 [sv x, sv y] (iv (cmpS x y)) := by
 refine qF Tryz.func222 E Tryz.ntmps222 zL fun c hL hQ hDD => (qd (qb (zX E (zK (qd (qv ?_)))))); refine qd (qb (zX E (zX E (zA E (qbV E E E E) (zX E (zK (qq E (fun c0 => ?_) (fun c0 => ?_))))))))
 ·try simp only[↓cqA,cqB]at c0
  refine qd (qb (zX E (zK (qo (qS (qm (zI hL (qh E qi) ?_ ?_)))))))
  ·rfl
  refine ⟨qa2 ?_, rfl⟩
  rw [cmpS_eq, if_pos (show ltS x y = true from c0)]
 try simp only[↓cqA,cqB]at c0
 refine qd (qb (zX E (zX E (zA E (qbV E E E E) (zX E (zK ?_)))))); refine qq E (fun c1 => ?_) (fun c1 => ?_)
 ·try simp only[↓cqA,cqB]at c1
  refine qd (qb (zX E (zK (qo (qS (qm (zI hL (qh E qi) ?_ ?_)))))))
  ·rfl
  refine ⟨qa2 ?_, rfl⟩
  simp only [Bool.or_eq_false_iff] at c1
  rw [cmpS_eq, if_neg (show ¬ ltS x y = true by rw [show ltS x y = false from c0]; simp), if_neg (by intro h; have := c1.2; simp [h] at this)]
 try simp only[↓cqA,cqB]at c1
 refine qr (qP (qa (qd (qb (zX E (zK ?_)))))); refine qo (zI hL (qh E qi) ?_ ?_)
 ·rfl
 refine ⟨qa2 ?_, rfl⟩
 have c0' : Op.bytesLess x.toList y.toList = false := c0
 rw [c0'] at c1
 simp only [Bool.false_or, str_beq_t] at c1
 rw [cmpS_eq, if_neg (show ¬ ltS x y = true by rw [show ltS x y = false from c0]; simp), if_pos c1]
def ordL (f : Tm → Tm → Int) : Int → List Tm → List Tm → Int
 | n, a :: l, b :: m => if n = 0 then ordL f (f a b) l m else n
 | n, _, _ => n
def ordT : Nat → Tm → Tm → Int
  | 0, _, _ => 0
  | d + 1, a, b =>
    if a.kind ≠ b.kind then cmpI a.kind b.kind
    else if a.kind = 1 then cmpS a.name b.name
    else if a.kind = 2 then cmpI a.n b.n
    else ordL (ordT d) (if cmpI a.args.length b.args.length = 0 then cmpS a.name b.name else cmpI a.args.length b.args.length) a.args b.args
theorem ordL_take (f : Tm → Tm → Int) : ∀ (k : Nat) (n : Int) (l m : List Tm), k ≤ l.length → k ≤ m.length → (∀ j, j < k → ordL f n (l.take j) (m.take j) = 0) → ordL f n l m = ordL f (ordL f n (l.take k) (m.take k)) (l.drop k) (m.drop k)
  | 0, n, l, m, _, _, _ => by simp [ordL]
  | k + 1, n, [], m, h, _, _ => by simp at h
  | k + 1, n, l, [], _, h, _ => by simp at h
  | k + 1, n, a :: l, b :: m, h1, h2, h => by
    have h0 : n = 0 := by have := h 0 (by omega); simpa [ordL] using this
    simp only [List.take_succ_cons, List.drop_succ_cons, ordL, if_pos h0]
    refine ordL_take f k _ l m (by simpa using h1) (by simpa using h2) fun j hj => ?_
    have := h (j + 1) (by omega)
    simpa [ordL, h0] using this
theorem ordL_stop (f : Tm → Tm → Int) (n : Int) (l m : List Tm) (h : ¬ n = 0) : ordL f n l m = n := by
 cases l <;> cases m <;> simp [ordL, h]
theorem ordL_snoc (f : Tm → Tm → Int) (n : Int) (l m : List Tm) (a b : Tm) (hl : l.length = m.length) (h : ∀ j, j ≤ l.length → ordL f n (l.take j) (m.take j) = 0) : ordL f n (l ++ [a]) (m ++ [b]) = f a b := by
 have h1 := ordL_take f l.length n (l ++ [a]) (m ++ [b]) (by simp) (by simp; omega) (fun j hj => by
  have := h j (by omega)
  rwa [List.take_append_of_le_length (by omega), List.take_append_of_le_length (by omega)])
 have h2 := h l.length (Nat.le_refl _)
 rw [h1]
 simp only [List.take_left, List.drop_left]
 rw [hl, List.take_left, List.drop_left]
 rw [List.take_length, hl, List.take_length] at h2
 rw [h2]
 simp [ordL]
theorem ordL_nil (f : Tm → Tm → Int) (n : Int) (l m : List Tm) (h : l = [] ∨ m = []) : ordL f n l m = n := by
 rcases h with rfl | rfl
 ·cases m <;> rfl
 ·cases l <;> rfl
theorem ordL_fin (f : Tm → Tm → Int) (n : Int) (l m : List Tm) (k : Nat) (hk : k ≤ l.length) (h : ∀ j, j < k → ordL f n (l.take j) (m.take j) = 0) (he : k = l.length ∨ ¬ ordL f n (l.take k) (m.take k) = 0) (hn : n = 0 → l.length = m.length) : ordL f n (l.take k) (m.take k) = ordL f n l m := by
 by_cases h0 : k = 0
 ·subst h0
  simp only [List.take_zero] at he ⊢
  rw [ordL_nil f n [] [] (.inl rfl)] at he ⊢
  rcases he with he | he
  ·rw [ordL_nil f n l m (.inl (List.eq_nil_of_length_eq_zero he.symm))]
  ·exact (ordL_stop f n l m he).symm
 ·have hz := h 0 (by omega)
  simp only [List.take_zero] at hz
  rw [ordL_nil f n [] [] (.inl rfl)] at hz
  have hl := hn hz
  rcases he with he | he
  ·rw [List.take_of_length_le (by omega), List.take_of_length_le (by omega)]
  ·exact ((ordL_take f k n l m hk (by omega) h).trans (ordL_stop f _ _ _ he)).symm
theorem Order_ok : ∀ (d : Nat) (a b : Tm), dle d a → a.wf → b.wf → PF 163 [tmA false a, tmA false b] (iv (ordT d a b))
  | 0, a, b, h, _, _ => h.elim
  | d + 1, a, b, h, ha, hb => by
    have h1 := ha.2.2.2.1
    have h2 := hb.2.2.2.1
    have hla := qaJ a.args
    have hlb := qaJ b.args
    have hcl : cmpI a.args.length b.args.length = 0 → a.args.length = b.args.length := fun h => by
      simp only [cmpI] at h
      split at h
      · cases h
      · split at h
        · cases h
        · omega
    let n0 : Int := if cmpI a.args.length b.args.length = 0 then cmpS a.name b.name else cmpI a.args.length b.args.length
    have hn0 : n0 = 0 → a.args.length = b.args.length := fun hz => hcl (by
      by_cases hq : cmpI a.args.length b.args.length = 0
      · exact hq
      · simpa only [n0, if_neg hq] using hz)
    refine qF Tryz.func163 E Tryz.ntmps163 zL fun c hL hQ hDD => (qd (qb (qy E E zD (qaa 2 E E E) E (qy E E zD (qaa 3 E E E) E (zX E (zK ?_)))))); refine qd (qd (qb (zA E (qe E qar E) (zA E (ql E qU E E E E E) (zA E (qe E qar E) (zA E (ql E qU E E E E E) (zA E (qj E E E E) (zK (qq E (fun c0 => ?_) (fun c0 => ?_))))))))))
    · try simp only[↓cqA,cqB]at c0
      refine qd (qb (zA E (qe E qar E) (zA E (ql E qU E E E E E) (zA E (qe E qar E) (zA E (ql E qU E E E E E) (qE (avs := [_, _]) true E E E zD qdu E E (rsign_ok _ _) E E (zX E (zK (qo (qm (zI hL (qh E qi) ?_ ?_)))))))))))
      · rfl
      exact ⟨qa2 (by rw [ordT, if_pos c0]), rfl⟩
    try simp only[↓cqA,cqB]at c0
    refine qr (qa (qd (qb (zX E (zK (qd ?_)))))); refine qd (qb (zA E (qe E qar E) (zA E (ql E qU E E E E E) ?_)))
    refine zK (qv (qd (qb (zA E (qj E E E E) (zX E (qc ?_)))))); refine qa (qq E (fun c1 => ?_) (fun c1 => ?_))
    · try simp only[↓cqA,cqB]at c1
      refine qd (qb (zA E (qe E qav E) (zA E (ql E qaf E E E E E) (zA E (qe E qav E) (zA E (ql E qaf E E E E E) (qE (avs := [_, _]) true E E E zD en_almagestref1_text E E (rtext_ok _ _) E E (zX E (zK (qo (qS (qm (zI hL (qh E qi) ?_ ?_))))))))))))
      · rfl
      exact ⟨qa2 (by rw [ordT, if_neg (by simp [c0]), if_pos c1]), rfl⟩
    try simp only[↓cqA,cqB]at c1
    refine qd (qb (zA E (qj E E E E) (zX E (zK (qq E (fun c2 => ?_) (fun c2 => ?_))))))
    · try simp only[↓cqA,cqB]at c2
      refine qd (qb (zA E (qe E qbc E) (zA E (ql E qU E E E E E) (zA E (qe E qbc E) (zA E (ql E qU E E E E E) (qE (avs := [_, _]) true E E E zD qdu E E (rsign_ok _ _) E E (zX E (zK (qo (qS (qm (zI hL (qh E qi) ?_ ?_))))))))))))
      · rfl
      exact ⟨qa2 (by rw [ordT, if_neg (by simp [c0]), if_neg c1, if_pos c2]), rfl⟩
    try simp only[↓cqA,cqB]at c2
    refine qr (qP (qa (qd (qb (zA E (qe E q8 E) (zA E (ql E q7 E E E E E) (zA E (qu E qI E) ?_))))))); refine zA E (qe E q8 E) (zA E (ql E q7 E E E E E) (zA E (qu E qI E) ?_))
    refine qE (avs := [_, _]) true E E E zD qdu E E (rsign_ok _ _) E E (zX E (zK (qd (qd (qb (zX E ?_)))))); refine zA E (qj E E E E) (zK (qq E (fun c3 => ?_) (fun c3 => ?_)))
    · try simp only[↓cqA,cqB]at c3
      refine qb (zA E (qe E qav E) (zA E (ql E qaf E E E E E) (zA E (qe E qav E) (zA E (ql E qaf E E E E E) ?_))))
      refine qE (avs := [_, _]) true E E E zD en_almagestref1_text E E (rtext_ok _ _) E E (zX E (zK (qd (qd (qb (zX E ?_)))))); refine zK (qv (q6 (a.args.length) (fun k => k ≤ a.args.length ∧ ∀ j, j < k → ordL (ordT d) n0 (a.args.take j) (b.args.take j) = 0) (fun k => ⟨[(2, .ptr 2 0), (3, .ptr 3 0), (5, iv (ordL (ordT d) n0 (a.args.take k) (b.args.take k))), (6, iv (k : Int))], [(2, .box (lift false (tmD a))), (3, .box (lift false (tmD b)))]⟩) (⟨by omega, fun j hj => absurd hj (by omega)⟩) ?_ (fun k hk hp => ?_)))
      · exact zR hL (zC E (zC E (SubT.cons (qan E (by exact qL (by rw [hla, hlb] at c3; simp only [n0, List.take_zero, ordL, c3, if_true, if_false, hla, hlb]))) (zC rfl SubT.nil)))) (SubO.cons (qR rfl (by rfl)) (SubO.cons (qR E (by rfl)) SubO.nil))
      refine qd (qd (qb (zX E (zA E (qe E q8 E) (zA E (ql E q7 E E E E E) (zA E (qu E qI E) (zA E (qj E E E E) ?_))))))); refine zX E (qt 52 E (fun g52 => ?_) (fun g52 => ?_))
      · try simp only[↓cqA,cqB]at g52
        refine zZ E (qk (.inl E) E) (zZ E (qj E E E E) (zA E (qg E E E) (zK (qq E (fun c4 => ?_) (fun c4 => ?_)))))
        · try simp only[↓cqA,cqB]at c4
          have hz : n0 = 0 := by
            by_cases hk00 : 0 < k
            · have := hp.2 0 hk00
              simpa only [List.take_zero, ordL_nil (ordT d) n0 [] [] (.inl E)] using this
            · have e : k = 0 := by omega
              rw [e] at c4
              simpa only [List.take_zero, ordL_nil (ordT d) n0 [] [] (.inl E)] using c4
          have hll : a.args.length = b.args.length := hn0 hz
          obtain ⟨u, hu⟩ := qH (l := a.args) (k := k) (by omega)
          obtain ⟨v, hv⟩ := qH (l := b.args) (k := k) (by omega)
          have hum := List.mem_of_getElem? hu
          have hvm := List.mem_of_getElem? hv
          refine qr (qa (qd (qv (qZ 10 mixed E E E E (qf E zD (.run E (qe E q8 E)) (qf E zD (.run E (ql E q7 E E E E E)) (qf E zD (.run E (qk (.inl E) E)) ?_))))))); refine qf E zD (.run E (qp E qI E E (by omega) (qbv hu))) (qf E zD (.run E (qC E qw E E)) (qf E zD (.run E (qe E q8 E)) (qf E zD (.run E (ql E q7 E E E E E)) (qf E zD (.run E (qk (.inl E) E)) (qf E zD (.run E (qp E qI E E (by omega) (qbv hv))) (qf E zD (.run E (qC E qw E E)) ?_))))))
          refine qak ⟨rfl, rfl, ?_⟩; refine qE (avs := [_, _]) true E E E zD qdf E E (Order_ok d u v (h u hum) (Tm.wfs_mem ha.2.2.2.2 hum) (Tm.wfs_mem hb.2.2.2.2 hvm)) E E (zX E (qc (qP (qa (qb (zX E (zA E (qJ E E E (by omega)) (zX E (qc ?_)))))))))
          have hb5 : ordT d u v = ordL (ordT d) n0 (a.args.take (k + 1)) (b.args.take (k + 1)) := by
            rw [qac hu, qac hv, ordL_snoc _ _ _ _ _ _ (by simp; omega) (fun j hj => by
              by_cases hjk : j < k
              · have := hp.2 j hjk; rwa [List.take_take, List.take_take, Nat.min_eq_left (by omega)]
              · have hj2 : j ≤ k := by rw [List.length_take] at hj; omega
                rw [show j = k by omega, List.take_take, List.take_take, Nat.min_self]; exact c4)]
          refine qa ?_; refine ⟨?_, ?_, ?_⟩
          · omega
          · refine ⟨by omega, fun j hj => ?_⟩
            by_cases hjk : j < k
            · exact hp.2 j hjk
            · rw [show j = k by omega]; exact c4
          exact zR hL (zC E (zC E (SubT.cons (qan E (by exact qL hb5)) (zC E SubT.nil)))) (SubO.cons (qR E (by rfl)) (SubO.cons (qR E (by rfl)) SubO.nil))
        try simp only[↓cqA,cqB]at c4
        have hfin := ordL_fin (ordT d) n0 a.args b.args k hp.1 hp.2 (.inr c4) hn0
        refine qQ (qn (qn (qX ?_))); refine qa (qd (qb (zX E (zX E (zK (qo (zI hL (qh E qi) ?_ ?_)))))))
        · rfl
        exact ⟨qa2 (by rw [ordT, if_neg (by simp [c0]), if_neg c1, if_neg c2]; exact hfin), rfl⟩
      try simp only[↓cqA,cqB]at g52
      have hfin := ordL_fin (ordT d) n0 a.args b.args k hp.1 hp.2 (.inl (by omega)) hn0
      refine zY E (zY E (zA E (qg E E E) (zK (qab E (qQ (qn (qn (qX ?_)))))))); refine qa (qd (qb (zX E (zX E (zK (qo (zI hL (qh E qi) ?_ ?_)))))))
      · rfl
      exact ⟨qa2 (by rw [ordT, if_neg (by simp [c0]), if_neg c1, if_neg c2]; exact hfin), rfl⟩
    try simp only[↓cqA,cqB]at c3
    refine qr (qa (qd (qd (qb (zX E (zK ?_)))))); refine qv (q6 (a.args.length) (fun k => k ≤ a.args.length ∧ ∀ j, j < k → ordL (ordT d) n0 (a.args.take j) (b.args.take j) = 0) (fun k => ⟨[(2, .ptr 2 0), (3, .ptr 3 0), (5, iv (ordL (ordT d) n0 (a.args.take k) (b.args.take k))), (6, iv (k : Int))], [(2, .box (lift false (tmD a))), (3, .box (lift false (tmD b)))]⟩) (⟨by omega, fun j hj => absurd hj (by omega)⟩) ?_ (fun k hk hp => ?_))
    · exact zR hL (zC E (zC E (SubT.cons (qan E (by exact qL (by rw [hla, hlb] at c3; simp only [n0, List.take_zero, ordL, c3, if_true, if_false, hla, hlb]))) (zC rfl SubT.nil)))) (SubO.cons (qR rfl (by rfl)) (SubO.cons (qR E (by rfl)) SubO.nil))
    refine qd (qd (qb (zX E (zA E (qe E q8 E) (zA E (ql E q7 E E E E E) (zA E (qu E qI E) (zA E (qj E E E E) ?_))))))); refine zX E (qt 52 E (fun g52 => ?_) (fun g52 => ?_))
    · try simp only[↓cqA,cqB]at g52
      refine zZ E (qk (.inl E) E) (zZ E (qj E E E E) (zA E (qg E E E) (zK (qq E (fun c4 => ?_) (fun c4 => ?_)))))
      · try simp only[↓cqA,cqB]at c4
        have hz : n0 = 0 := by
          by_cases hk00 : 0 < k
          · have := hp.2 0 hk00
            simpa only [List.take_zero, ordL_nil (ordT d) n0 [] [] (.inl E)] using this
          · have e : k = 0 := by omega
            rw [e] at c4
            simpa only [List.take_zero, ordL_nil (ordT d) n0 [] [] (.inl E)] using c4
        have hll : a.args.length = b.args.length := hn0 hz
        obtain ⟨u, hu⟩ := qH (l := a.args) (k := k) (by omega)
        obtain ⟨v, hv⟩ := qH (l := b.args) (k := k) (by omega)
        have hum := List.mem_of_getElem? hu
        have hvm := List.mem_of_getElem? hv
        refine qr (qa (qd (qv (qZ 10 mixed E E E E (qf E zD (.run E (qe E q8 E)) (qf E zD (.run E (ql E q7 E E E E E)) (qf E zD (.run E (qk (.inl E) E)) ?_))))))); refine qf E zD (.run E (qp E qI E E (by omega) (qbv hu))) (qf E zD (.run E (qC E qw E E)) (qf E zD (.run E (qe E q8 E)) (qf E zD (.run E (ql E q7 E E E E E)) (qf E zD (.run E (qk (.inl E) E)) (qf E zD (.run E (qp E qI E E (by omega) (qbv hv))) (qf E zD (.run E (qC E qw E E)) ?_))))))
        refine qak ⟨rfl, rfl, ?_⟩; refine qE (avs := [_, _]) true E E E zD qdf E E (Order_ok d u v (h u hum) (Tm.wfs_mem ha.2.2.2.2 hum) (Tm.wfs_mem hb.2.2.2.2 hvm)) E E (zX E (qc (qP (qa (qb (zX E (zA E (qJ E E E (by omega)) (zX E (qc ?_)))))))))
        have hb5 : ordT d u v = ordL (ordT d) n0 (a.args.take (k + 1)) (b.args.take (k + 1)) := by
          rw [qac hu, qac hv, ordL_snoc _ _ _ _ _ _ (by simp; omega) (fun j hj => by
            by_cases hjk : j < k
            · have := hp.2 j hjk; rwa [List.take_take, List.take_take, Nat.min_eq_left (by omega)]
            · have hj2 : j ≤ k := by rw [List.length_take] at hj; omega
              rw [show j = k by omega, List.take_take, List.take_take, Nat.min_self]; exact c4)]
        refine qa ?_; refine ⟨?_, ?_, ?_⟩
        · omega
        · refine ⟨by omega, fun j hj => ?_⟩
          by_cases hjk : j < k
          · exact hp.2 j hjk
          · rw [show j = k by omega]; exact c4
        exact zR hL (zC E (zC E (SubT.cons (qan E (by exact qL hb5)) (zC E SubT.nil)))) (SubO.cons (qR E (by rfl)) (SubO.cons (qR E (by rfl)) SubO.nil))
      try simp only[↓cqA,cqB]at c4
      have hfin := ordL_fin (ordT d) n0 a.args b.args k hp.1 hp.2 (.inr c4) hn0
      refine qQ (qn (qn (qX ?_))); refine qa (qd (qb (zX E (zX E (zK (qo (zI hL (qh E qi) ?_ ?_)))))))
      · rfl
      exact ⟨qa2 (by rw [ordT, if_neg (by simp [c0]), if_neg c1, if_neg c2]; exact hfin), rfl⟩
    try simp only[↓cqA,cqB]at g52
    have hfin := ordL_fin (ordT d) n0 a.args b.args k hp.1 hp.2 (.inl (by omega)) hn0
    refine zY E (zY E (zA E (qg E E E) (zK (qab E (qQ (qn (qn (qX ?_)))))))); refine qa (qd (qb (zX E (zX E (zK (qo (zI hL (qh E qi) ?_ ?_)))))))
    · rfl
    exact ⟨qa2 (by rw [ordT, if_neg (by simp [c0]), if_neg c1, if_neg c2]; exact hfin), rfl⟩
theorem data_inj (a b : ByteArray) : a.data = b.data ↔ a = b := ⟨fun h => by cases a; cases b; simpa using h, fun h => by rw [h]⟩
def eqL (f : Tm → Tm → Bool) : List Tm → List Tm → Bool
 | [], [] => true
 | a :: l, b :: m => f a b && eqL f l m
 | _, _ => false
def eqT : Nat → Tm → Tm → Bool
 | 0, _, _ => false
 | d + 1, a, b => decide (a.kind = b.kind) && decide (a.name.data.toList = b.name.data.toList) && decide (a.n = b.n) && eqL (eqT d) a.args b.args
theorem eqL_len (f : Tm → Tm → Bool) : ∀ {l m : List Tm}, l.length ≠ m.length → eqL f l m = false
 | [], [], h => absurd E h
 | a :: l, b :: m, h => by simp only [eqL, eqL_len f (l := l) (m := m) (by simpa using h), Bool.and_false]
 | [], _ :: _, _ => rfl
 | _ :: _, [], _ => rfl
theorem eqL_true (f : Tm → Tm → Bool) : ∀ {l m : List Tm}, l.length = m.length → (∀ (j : Nat) (a b : Tm), l[j]? = some a → m[j]? = some b → f a b = true) → eqL f l m = true
  | [], [], _, _ => rfl
  | a :: l, b :: m, h, k => by
    simp only [eqL, Bool.and_eq_true]
    exact ⟨k 0 a b (by simp) (by simp), eqL_true f (by simpa using h) fun j a b h1 h2 => k (j + 1) a b (by simpa using h1) (by simpa using h2)⟩
theorem eqL_false (f : Tm → Tm → Bool) : ∀ {l m : List Tm} (j : Nat) {a b : Tm}, l[j]? = some a → m[j]? = some b → f a b = false → eqL f l m = false
  | [], _, j, a, b, h, _, _ => by simp at h
  | _ :: _, [], j, a, b, _, h, _ => by simp at h
  | x :: l, y :: m, 0, a, b, h1, h2, h => by
    simp only [List.getElem?_cons_zero, Option.some.injEq] at h1 h2
    subst h1; subst h2; simp [eqL, h]
  | x :: l, y :: m, j + 1, a, b, h1, h2, h => by
    simp [eqL, eqL_false f (l := l) (m := m) j (by simpa using h1) (by simpa using h2) h]
def EqC (d : Nat) : Prop := ∀ a b : Tm, dle d a → a.wf → b.wf → PF 100 [tmA false a, tmA false b] (bv (eqT d a b))
theorem EqTerms_ok (d : Nat) (ih : EqC d) (x y : List Tm) (hx : ∀ u, u ∈ x → dle d u) (wx : Tm.wfs x) (wy : Tm.wfs y) (lx : x.length ≤ 140737488351232) (ly : y.length ≤ 140737488351232) : PF 159 [.dat false 4 (tmDs x), .dat false 4 (tmDs y)] (bv (eqL (eqT d) x y)) := by
 have hlx := qaJ x
 have hly := qaJ y
 refine qF Tryz.func159 E Tryz.ntmps159 zL fun c hL hQ hDD => (qd (qb (zX E (zK (qd (qd ?_)))))); refine qb (zX E (zA E (qu E qI E) (zX E (zA E (qu E qI E) (zA E (qj E E E E) (zK (qq E (fun c0 => ?_) (fun c0 => ?_))))))))
 ·try simp only[↓cqA,cqB]at c0
  refine qd (qb (zX E (zK (qo (qm (zI hL (qh E qi) ?_ ?_))))))
  ·rfl
  exact ⟨qT (eqL_len _ (by omega)).symm, rfl⟩
 try simp only[↓cqA,cqB]at c0
 refine qr (qa (qd (qd (qb (zX E (zK ?_)))))); refine qv (q6 (x.length) (fun k => k ≤ x.length ∧ ∀ j a b, j < k → x[j]? = some a → y[j]? = some b → eqT d a b = true) (fun k => ⟨[(0, .dat false 4 (tmDs x)), (1, .dat false 4 (tmDs y)), (5, iv (k : Int))], []⟩) (⟨by omega, fun j a b hj => absurd hj (by omega)⟩) ?_ (fun k hk hp => ?_))
 ·exact zR hL (zC E (zC E (zC E SubT.nil))) SubO.nil
 refine qd (qd (qb (zX E (zX E (zA E (qu E qI E) (zA E (qj E E E E) (qc ?_))))))); refine qa (qq E (fun c1 => ?_) (fun c1 => ?_))
 ·try simp only[↓cqA,cqB]at c1
  obtain ⟨u, hu⟩ := qH (l := x) (k := k) (by omega)
  obtain ⟨v, hv⟩ := qH (l := y) (k := k) (by omega)
  refine qr (qa (qd (qv (qd (qZ 8 mixed E E E E (qf E zD (.run E (qk (.inl E) E)) (qf E zD (.run E (qk (.inl E) E)) ?_))))))); refine qf E zD (.run E (qp E qI E E (by omega) (qbv hu))) (qf E zD (.run E (qC E qw E E)) (qf E zD (.run E (qk (.inl E) E)) (qf E zD (.run E (qk (.inl E) E)) (qf E zD (.run E (qp E qI E E (by omega) (qbv hv))) (qf E zD (.run E (qC E qw E E)) ?_)))))
  refine qak ⟨rfl, rfl, ?_⟩; refine qE (avs := [_, _]) true E E E zD qbh E E (ih u v (hx u (List.mem_of_getElem? hu)) (Tm.wfs_get wx hu) (Tm.wfs_get wy hv)) E E (zA E (qal E E) (zK (qq E (fun c2 => ?_) (fun c2 => ?_))))
  ·try simp only[↓cqA,cqB]at c2
   refine qd (qb (zX E (zK (qo (qS (qm (qm (qS (qm (zI hL (qh E qi) ?_ ?_))))))))))
   ·rfl
   exact ⟨qT (eqL_false _ k hu hv c2).symm, rfl⟩
  try simp only[↓cqA,cqB]at c2
  refine qr (qP (qa (qb (zX E (zA E (qJ E E E (by omega)) (zX E (qc ?_))))))); refine qa ?_; refine ⟨?_, ?_, ?_⟩
  ·omega
  ·refine ⟨by omega, fun j a b hj ha hb => ?_⟩
   by_cases hjk : j < k
   ·exact hp.2 j a b hjk ha hb
   ·rw [show j = k by omega] at ha hb; rw [hu] at ha; rw [hv] at hb; cases ha; cases hb; exact c2
  exact zR hL (zC E (zC E (zC E SubT.nil))) SubO.nil
 try simp only[↓cqA,cqB]at c1
 refine qQ (qn (qn (qX ?_))); refine qa (qd (qb (zX E (zK (qo (zI hL (qh E qi) ?_ ?_))))))
 ·rfl
 exact ⟨qT (eqL_true _ (by omega) (fun j a b ha hb => hp.2 j a b (by have := (List.getElem?_eq_some_iff.1 ha).1; omega) ha hb)).symm, rfl⟩
theorem EqTerm_ok : ∀ d : Nat, EqC d
  | 0 => fun a b h _ _ => h.elim
  | d + 1 => fun a b h ha hb => by
    have h1 := ha.2.2.2.1
    have h2 := hb.2.2.2.1
    refine qF Tryz.func100 E Tryz.ntmps100 zL fun c hL hQ hDD => (qd (qb (qy E E zD (qaa 2 E E E) E (qy E E zD (qaa 3 E E E) E (zX E (zK ?_)))))); refine qd (qb (zA E (qe E qar E) (zA E (ql E qU E E E E E) (zA E (qe E qar E) (zA E (ql E qU E E E E E) (zA E (qj E E E E) (zX E (qt 10 E (fun g10 => ?_) (fun g10 => ?_)))))))))
    · try simp only[↓cqA,cqB]at g10
      refine zZ E (qe E qav E) (zZ E (ql E qaf E E E E E) (zZ E (qe E qav E) (zZ E (ql E qaf E E E E E) (zZ E (qbV E E E E) (zA E (qg E E E) (zX E (qt 17 E (fun g17 => ?_) (fun g17 => ?_))))))))
      · try simp only[↓cqA,cqB]at g17
        refine zZ E (qe E qbc E) (zZ E (ql E qU E E E E E) (zZ E (qe E qbc E) (zZ E (ql E qU E E E E E) (zZ E (qj E E E E) (zA E (qg E E E) (zX E (qt 24 E (fun g24 => ?_) (fun g24 => ?_))))))))
        · try simp only[↓cqA,cqB]at g24
          refine zZ E (qe E q8 E) (zZ E (ql E q7 E E E E E) (zZ E (qe E q8 E) (zZ E (ql E q7 E E E E E) (zZ E (qY (avs := [_, _]) true E en_almagestref0_EqTerms E E (EqTerms_ok d (EqTerm_ok d) a.args b.args h ha.2.2.2.2 hb.2.2.2.2 (by omega) (by omega)) (fun _ => rfl) E) (zA E (qg E E E) (zX E (zK (qo (zI hL (qh E qi) ?_ ?_)))))))))
          · rfl
          refine ⟨qT ?_, rfl⟩
          simp_all [eqT, data_inj]
        try simp only[↓cqA,cqB]at g24
        refine zY E (zY E (zY E (zY E (zY E (zA E (qg E E E) (zX E (qc ?_))))))); refine qa (qo (zI hL (qh E qi) ?_ ?_))
        · rfl
        refine ⟨qT ?_, rfl⟩
        simp_all [eqT, data_inj]
      try simp only[↓cqA,cqB]at g17
      refine zY E (zY E (zY E (zY E (zY E (zA E (qg E E E) ?_)))))
      refine zX E (zY E (zY E (zY E (zY E (zY E (zA E (qg E E E) (zX E ?_))))))); refine zK (qo (zI hL (qh E qi) ?_ ?_))
      · rfl
      refine ⟨qT ?_, rfl⟩
      simp_all [eqT, data_inj]
    try simp only[↓cqA,cqB]at g10
    refine zY E (zY E (zY E (zY E (zY E (zA E (qg E E E) (zX E (zY E (zY E (zY E (zY E (zY E (zA E (qg E E E) (zX E (zY E (zY E (zY E (zY E (zY E (zA E (qg E E E) (zX E (zK (qo (zI hL (qh E qi) ?_ ?_)))))))))))))))))))))))
    · rfl
    refine ⟨qT ?_, rfl⟩
    simp_all [eqT, data_inj]
end Go.Proofs.YtpgceiijoedppaaGreat
