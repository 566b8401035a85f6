/- Part 19 of the proof: Nf. -/
import Derived.Test.YtpgceiijoedppaaGreatB18
set_option linter.unusedVariables false
set_option linter.unusedSimpArgs false
set_option maxRecDepth 8000
namespace Go.Proofs.YtpgceiijoedppaaGreat
open Go
theorem joined_ok (p : Pt) {n k q : Nat} (hn : n ≤ 1000000) (hk : k ≤ 1000000) (a b : Mt) (ha : MOk n a) (hb : MOk k b) (cl : List Mt) (hc : ∀ x ∈ cl, MOk q x) (hcl : cl.length ≤ 1000000) (hr : p.kind = 6 → 1 ≤ p.rel ∧ p.rel ≤ 13) : PF 63 [ptA false p, mtA a, mtA b, .dat false 4 (mtDs cl)] (.tup [mtA ((qb9 p.kind p.rel cl a b).getD zeroM), bv (qb9 p.kind p.rel cl a b).isSome]) := by
 refine joinPost_ok ?_
 cases hl : liesB p.kind p.rel a b with
 | true => exact joined_yes p hn hk a b ha hb cl hc hcl hr hl
 | false => exact joined_no p a b cl hr hl
theorem rMatch0_ok (t : Tm) (hd : dle 5 t) (hs : t.shp) (hw : t.wf) (u : Tm) (hu : u.wf) (hm : mayT u = true) (hg : Gr u) : PF 61 [.imm (.slice none 0 0), tmA false t, tmA false u] (.tup [.dat true 5 (bdDs (fitR 5 [] t u).1), iv (fitR 5 [] t u).2]) :=
 AC_le (.cons .nil (.cons .refl (.cons .refl .nil))) (rMatch_ok 5 [] t u hd hs hw GG_nil hu hm hg)
theorem filterMap_take {α β : Type} (f : α → Option β) {l : List α} {k : Nat} {u : α} (h : l[k]? = some u) : (l.take (k + 1)).filterMap f = (l.take k).filterMap f ++ (f u).toList := by
 rw [qac h, List.filterMap_append]
 cases hf : f u <;> simp [hf]
theorem putsG_app {f : Mt → Mt → Int} (l m n : List Mt) : qaS f l (m ++ n) = qaS f (qaS f l m) n := by simp [qaS]
theorem putsG_len {f : Mt → Mt → Int} : ∀ (m l : List Mt), l.length ≤ (qaS f l m).length ∧ (qaS f l m).length ≤ l.length + m.length
  | [], l => by simp [qaS]
  | t :: m, l => by
    have h1 := putG_len f l t
    have h2 := putsG_len (f := f) m (putG f l t)
    rw [show qaS f l (t :: m) = qaS f (putG f l t) m from rfl]
    simp only [List.length_cons]
    omega
theorem MOk.io {n : Nat} {m : Mt} (h : MOk n m) (hn : n ≤ 1000000) : m.wf ∧ ∀ x ∈ m.b, Go.Proofs.YtpgceiijoedppaaGreat.dle 5 x.t := ⟨h.wf hn, h.dle⟩
def AllC (l : List Kp) (d : Nat) : Prop := ∀ p : Pt, p.wf → patB d p = true → AC Tryz.prog 22 [.dat false 7 (kpDs l), ptA false p] [] (fun r O => r = .tup [.row 6, bv (mAll d l p).2] ∧ O = [(6, .rowd 55 4 false (mtDs (mAll d l p).1))])
theorem rAll_term {l : List Kp} (hl : listB l = true) (hw : ∀ k ∈ l, k.wf) (d : Nat) (p : Pt) (hp : p.wf) (hb : patB (d + 1) p = true) (hk : p.kind = 1) : AC Tryz.prog 22 [.dat false 7 (kpDs l), ptA false p] [] (fun r O => r = .tup [.row 6, bv (mAll (d + 1) l p).2] ∧ O = [(6, .rowd 55 4 false (mtDs (mAll (d + 1) l p).1))]) := by
 have hlen := kpDs_length l
 obtain ⟨hl3, hlm⟩ := listB_may hl
 obtain ⟨ht1, _⟩ := patB_term hb hk
 have htw := hp.2.1
 have hm : mAll (d + 1) l p = (qaS ordM [] (l.filterMap (qc8 p.t)), decide ((qaS ordM [] (l.filterMap (qc8 p.t))).length ≤ 1000)) := by rw [mAll, if_pos hk]
 rw [hm]
 have hin : ∀ k, ∀ a ∈ qaS ordM [] ((l.take k).filterMap (qc8 p.t)), a.wf ∧ ∀ x ∈ a.b, dle 5 x.t := fun k a ha => by
  rcases putsG_in _ _ _ ha with h | h
  ·cases h
  ·obtain ⟨u, hu, h⟩ := List.mem_filterMap.1 h
   exact (termM_ok ht1 htw (hlm u (List.mem_of_mem_take hu)) (hw u (List.mem_of_mem_take hu)) h).io zD
 have hll : ∀ k, (qaS ordM [] ((l.take k).filterMap (qc8 p.t))).length ≤ 1000000 := fun k => by
  have h1 := (putsG_len (f := ordM) ((l.take k).filterMap (qc8 p.t)) []).2
  have h2 := List.length_filterMap_le (qc8 p.t) (l.take k)
  rw [List.length_take] at h2
  simp only [List.length_nil] at h1
  omega
 refine qF Tryz.func22 E Tryz.ntmps22 zL fun c hL hQ hDD => (qd (qb (qy E E zD (qaa 3 E E E) E (zX E (zX E (zK ?_)))))); refine qd (qb (zX E (zK (qd (qd (qb (zA E (qe E qao E) (zA E (ql E qU E E E E E) (zA E (qj E E E E) (zK (qq E (fun c0 => ?_) (fun c0 => ?_))))))))))))
 ·try simp only[↓cqA,cqB]at c0
  refine qd (qd (qb (zX E (zK (qv (q6 (l.length) (fun k => k ≤ l.length) (fun k => ⟨[(0, .dat false 7 (kpDs l)), (3, .ptr 3 0), (6, .row 0), (7, iv (k : Int))], [(0, .rowd 55 4 false (mtDs (qaS ordM [] ((l.take k).filterMap (qc8 p.t))))), (3, .box (lift false (ptD p)))]⟩) (by omega) ?_ (fun k hk hp => ?_)))))))
  ·exact Sub.trans (qaU (t := 6) (l := 0) 55 4 false E E) (qB (zC E (zC E (zC E (zC E SubT.nil)))) (SubO.cons (qR E (by rfl)) (SubO.cons (qR E (by rfl)) SubO.nil)) E E (noL' (noL hL) _))
  refine qd (qd (qb (zX E (zX E (zA E (qu E qaq E) (zA E (qj E E E E) (qc ?_))))))); refine qa (qq E (fun c1 => ?_) (fun c1 => ?_))
  ·try simp only[↓cqA,cqB]at c1
   obtain ⟨u, hu⟩ := qH (l := l) (k := k) (by omega)
   have hum := List.mem_of_getElem? hu
   have huw := hw u hum
   have huf := hlm u hum
   have hub := huf
   simp only [factB, Bool.and_eq_true, decide_eq_true_eq] at hub
   obtain ⟨⟨⟨_, hu1⟩, hu2⟩, _⟩ := hub
   have hft := filterMap_take (qc8 p.t) hu
   refine qr (qa (qd (qv (qd (qZ 13 mixed E E E E (qf E zD (.run E (qe E qbo E)) (qf E zD (.run E (ql E qw E E E E E)) ?_))))))); refine qf E zD (.run E (qk (.inl E) E)) (qf E zD (.run E (qk (.inl E) E)) (qf E zD (.run E (qp E qaq E E (by omega) (qbO hu))) (qf E zD (.run E (qA E qbs E)) (qf E zD (.run E (qA E qbP E)) (qf E zD (.run E (stp_load_elpn E qw E E E)) (qf E zD (.run E (qY (avs := [_, _, _]) true E en_almagestref1_Match E E (rMatch0_ok p.t (qbA ht1) (qdT ht1) htw u.f.t huw.2.1 hu1 ((groundB_iff (qbA hu1)).1 hu2)) (fun _ => rfl) E)) (qf E zD (.run E (qk (.inl E) E)) (qf E zD (.run E (qay E E E)) ?_))))))))
   refine qf E zD (.run E (qay E E E)) (qf E zD (.run E (qk (.inr E) E)) (qak ⟨rfl, rfl, ?_⟩)); refine zX E (zK (qd (qb (zX E (zA E (qj E E E E) (qc ?_)))))); refine qa (qq E (fun c2 => ?_) (fun c2 => ?_))
   ·try simp only[↓cqA,cqB]at c2
    have hte : qc8 p.t u = some ⟨(fitR 5 [] p.t u.f.t).1, u.f.fr, u.f.to, [u.seq]⟩ := by rw [qc8, if_pos c2]
    have hmo := (termM_ok ht1 htw huf huw hte).io (by decide)
    rw [hte] at hft
    refine qd3 (sub_untag hQ) (qZ 15 mixed E E E E (qf E zD (.run E (qk (.inl E) E)) (qf E zD (.run E (qk (.inl E) E)) (qf E zD (.run E (qk (.inl E) E)) (qf E zD (.run E (qk (.inl E) E)) (qf E zD (.run E (qp E qaq E E (by omega) (qbO hu))) (qf E zD (.run E (qA E qbs E)) ?_)))))))
    refine qf E zD (.run E (qA E qb4 E)) (qf E zD (.run E (qC E qaO E E)) (qf E zD (.run E (qk (.inl E) E)) (qf E zD (.run E (qk (.inl E) E)) (qf E zD (.run E (qp E qaq E E (by omega) (qbO hu))) (qf E zD (.run E (qA E qb3 E)) (qf E zD (.run E (qN E qU E)) (qf E zD (.run E (stp_buildSliceD false E qaL zv_int E E zD zD zD E E E E)) (qf E zD (.run E (qa1 E qax E qbk E E)) (qak ⟨rfl, rfl, ?_⟩)))))))))
    refine awps_via ⟨[(59, .row 0), (0, .dat false 7 (kpDs l)), (3, .ptr 3 0), (7, iv (k : Int))], (0, .rowd 55 4 false (mtDs (putG ordM (qaS ordM [] ((l.take k).filterMap (qc8 p.t))) ((⟨(fitR 5 [] p.t u.f.t).1, u.f.fr, u.f.to, [u.seq]⟩ : Mt))))) :: [(3, .box (lift false (ptD p)))]⟩ (fun Q2 K => ?_) ?_
    ·refine qaB (qB (T1 := [(44, .row 0), (58, mtA ((⟨(fitR 5 [] p.t u.f.t).1, u.f.fr, u.f.to, [u.seq]⟩ : Mt))), (0, .dat false 7 (kpDs l)), (3, .ptr 3 0), (7, iv (k : Int))]) (O1 := (0, .rowd 55 4 false (mtDs (qaS ordM [] ((l.take k).filterMap (qc8 p.t))))) :: [(3, .box (lift false (ptD p)))]) (zB E (zB E (zB E (zB E (zB E SubT.nil))))) (SubO.cons E (SubO.cons E SubO.nil)) E E (noL' (noL hL) _)) ?_
     have h9 := qau (qaS ordM [] ((l.take k).filterMap (qc8 p.t)))
     refine awps_open (l := 0) E zD (noL hL _) (fun he => ?_) (fun cap h1 h2 => ?_)
     ·have hl0 : (qaS ordM [] ((l.take k).filterMap (qc8 p.t))) = [] := by
       rw [he] at h9; exact List.eq_nil_of_length_eq_zero h9.symm
      rw [hl0] at K
      refine qaj (avs := [_, _]) false E E E zD qa6 E E (put13Nil_ok ((⟨(fitR 5 [] p.t u.f.t).1, u.f.fr, u.f.to, [u.seq]⟩ : Mt)) hmo.1) E (qbX .nil) (by rintro r O' ⟨_, rfl⟩; exact frB E) (by rintro h; cases h) ?_
      rintro r O' ⟨rfl, rfl⟩
      exact qaB (Sub.trans (qB (T1 := [(59, .row 9), (0, .dat false 7 (kpDs l)), (3, .ptr 3 0), (7, iv (k : Int))]) (O1 := (9, .rowd 55 4 false (mtDs (putG ordM [] ((⟨(fitR 5 [] p.t u.f.t).1, u.f.fr, u.f.to, [u.seq]⟩ : Mt))))) :: [(3, .box (lift false (ptD p)))]) (zB E (zB E (zB E (zB E SubT.nil)))) (SubO.cons E (SubO.cons E SubO.nil)) E E (noL' (noL hL) _)) (Sub.trans (qaC 9 0 (noL hL _) (noL hL _)) (qB (zB E (zB E (zB E (zB E SubT.nil)))) (SubO.cons E (SubO.cons E SubO.nil)) E E (noL' (noL hL) _)))) K
     ·by_cases hroom : (qaS ordM [] ((l.take k).filterMap (qc8 p.t))).length + 1 ≤ cap
      ·refine qaj (avs := [_, _]) false E E E zD qa6 E E (put13R_ok (qaS ordM [] ((l.take k).filterMap (qc8 p.t))) (hll k) (hin k) ((⟨(fitR 5 [] p.t u.f.t).1, u.f.fr, u.f.to, [u.seq]⟩ : Mt)) hmo.1 cap (by omega) h2 hroom) E (qbX (.cons E trivial E .nil)) (by rintro r O' ⟨J, c2, _, ⟨_, rfl⟩ | ⟨_, rfl⟩⟩ <;> exact frB E) (by rintro h; cases h) ?_
       rintro r O' ⟨J, c2, hc2, ⟨rfl, rfl⟩ | ⟨rfl, rfl⟩⟩
       ·exact qaB (Sub.trans (qcm (l := 0) (cap := c2) (n := (mtDs (putG ordM (qaS ordM [] ((l.take k).filterMap (qc8 p.t))) ((⟨(fitR 5 [] p.t u.f.t).1, u.f.fr, u.f.to, [u.seq]⟩ : Mt)))).length) (mtDs (putG ordM (qaS ordM [] ((l.take k).filterMap (qc8 p.t))) ((⟨(fitR 5 [] p.t u.f.t).1, u.f.fr, u.f.to, [u.seq]⟩ : Mt)))) E (noL hL _) ⟨J, rfl⟩ E (by simp; omega)) (qB (SubT.cons (qan E (by simp [AV.rp, clV])) (zB rfl (zB rfl (zB rfl SubT.nil)))) (SubO.cons rfl (SubO.cons rfl SubO.nil)) rfl rfl (noL' (noL hL) _))) K
       ·exact qaB (Sub.trans (qcm (l := 9) (cap := c2) (n := (mtDs (putG ordM (qaS ordM [] ((l.take k).filterMap (qc8 p.t))) ((⟨(fitR 5 [] p.t u.f.t).1, u.f.fr, u.f.to, [u.seq]⟩ : Mt)))).length) (mtDs (putG ordM (qaS ordM [] ((l.take k).filterMap (qc8 p.t))) ((⟨(fitR 5 [] p.t u.f.t).1, u.f.fr, u.f.to, [u.seq]⟩ : Mt)))) E (noL hL _) ⟨J, rfl⟩ E (by simp; omega)) (Sub.trans (qB (T1 := [(59, .row 9), (0, .dat false 7 (kpDs l)), (3, .ptr 3 0), (7, iv (k : Int))]) (O1 := (9, .rowd 55 4 false (mtDs (putG ordM (qaS ordM [] ((l.take k).filterMap (qc8 p.t))) ((⟨(fitR 5 [] p.t u.f.t).1, u.f.fr, u.f.to, [u.seq]⟩ : Mt))))) :: [(3, .box (lift false (ptD p)))]) (SubT.cons (qan E (by simp [AV.rp, clV])) (zB rfl (zB rfl (zB rfl SubT.nil)))) (SubO.cons rfl (SubO.cons rfl SubO.nil)) rfl rfl (noL' (noL hL) _)) (Sub.trans (qaC 9 0 (noL hL _) (noL hL _)) (qB (zB rfl (zB rfl (zB rfl (zB rfl SubT.nil)))) (SubO.cons rfl (SubO.cons rfl SubO.nil)) rfl rfl (noL' (noL hL) _))))) K
      ·refine qaj (avs := [_, _]) false E E E zD qa6 E E (put13G_ok (qaS ordM [] ((l.take k).filterMap (qc8 p.t))) (hll k) (hin k) ((⟨(fitR 5 [] p.t u.f.t).1, u.f.fr, u.f.to, [u.seq]⟩ : Mt)) hmo.1 cap (by omega) h2 (by omega)) E (qbX (.cons E trivial E .nil)) (by rintro r O' ⟨J, c2, _, ⟨_, rfl⟩ | ⟨_, rfl⟩⟩ <;> exact frB E) (by rintro h; cases h) ?_
       rintro r O' ⟨J, c2, hc2, ⟨rfl, rfl⟩ | ⟨rfl, rfl⟩⟩
       ·exact qaB (Sub.trans (qcm (l := 0) (cap := c2) (n := (mtDs (putG ordM (qaS ordM [] ((l.take k).filterMap (qc8 p.t))) ((⟨(fitR 5 [] p.t u.f.t).1, u.f.fr, u.f.to, [u.seq]⟩ : Mt)))).length) (mtDs (putG ordM (qaS ordM [] ((l.take k).filterMap (qc8 p.t))) ((⟨(fitR 5 [] p.t u.f.t).1, u.f.fr, u.f.to, [u.seq]⟩ : Mt)))) E (noL hL _) ⟨J, rfl⟩ E (by simp; omega)) (qB (SubT.cons (qan E (by simp [AV.rp, clV])) (zB rfl (zB rfl (zB rfl SubT.nil)))) (SubO.cons rfl (SubO.cons rfl SubO.nil)) rfl rfl (noL' (noL hL) _))) K
       ·exact qaB (Sub.trans (qcm (l := 9) (cap := c2) (n := (mtDs (putG ordM (qaS ordM [] ((l.take k).filterMap (qc8 p.t))) ((⟨(fitR 5 [] p.t u.f.t).1, u.f.fr, u.f.to, [u.seq]⟩ : Mt)))).length) (mtDs (putG ordM (qaS ordM [] ((l.take k).filterMap (qc8 p.t))) ((⟨(fitR 5 [] p.t u.f.t).1, u.f.fr, u.f.to, [u.seq]⟩ : Mt)))) E (noL hL _) ⟨J, rfl⟩ E (by simp; omega)) (Sub.trans (qB (T1 := [(59, .row 9), (0, .dat false 7 (kpDs l)), (3, .ptr 3 0), (7, iv (k : Int))]) (O1 := (9, .rowd 55 4 false (mtDs (putG ordM (qaS ordM [] ((l.take k).filterMap (qc8 p.t))) ((⟨(fitR 5 [] p.t u.f.t).1, u.f.fr, u.f.to, [u.seq]⟩ : Mt))))) :: [(3, .box (lift false (ptD p)))]) (SubT.cons (qan E (by simp [AV.rp, clV])) (zB rfl (zB rfl (zB rfl SubT.nil)))) (SubO.cons rfl (SubO.cons rfl SubO.nil)) rfl rfl (noL' (noL hL) _)) (Sub.trans (qaC 9 0 (noL hL _) (noL hL _)) (qB (zB rfl (zB rfl (zB rfl (zB rfl SubT.nil)))) (SubO.cons rfl (SubO.cons rfl SubO.nil)) rfl rfl (noL' (noL hL) _))))) K
    refine zX E (qc (qP (qa (qb (zX E (zA E (qJ E E E (by omega)) (zX E ?_))))))); refine zK ?_; refine ⟨?_, ?_, ?_⟩
    ·omega
    ·omega
    exact zR hL (zC E (zC E (zC E (zC E SubT.nil)))) (SubO.cons (qR E (by first | (rw [hft, putsG_app]; done) | (rw [hft, putsG_app]; rfl) | (rw [hft, Option.toList_none, List.append_nil]; done))) (SubO.cons (qR E (by rfl)) SubO.nil))
   try simp only[↓cqA,cqB]at c2
   have hte : qc8 p.t u = none := by rw [qc8, if_neg c2]
   rw [hte] at hft
   refine qr (qP (qa (qb (zX E (zA E (qJ E E E (by omega)) (zX E (qc ?_))))))); refine qa ?_; refine ⟨?_, ?_, ?_⟩
   ·omega
   ·omega
   exact zR hL (zC E (zC E (zC E (zC E SubT.nil)))) (SubO.cons (qR E (by first | (rw [hft, putsG_app]; done) | (rw [hft, putsG_app]; rfl) | (rw [hft, Option.toList_none, List.append_nil]; done))) (SubO.cons (qR E (by rfl)) SubO.nil))
  try simp only[↓cqA,cqB]at c1
  have hall : l.take k = l := List.take_of_length_le (by omega)
  have hlr := qau (qaS ordM [] (l.filterMap (qc8 p.t)))
  rw [hall]
  refine qQ (qn (qn (qX ?_))); refine qa (qd (qb (zX E (zX E (zA E (qcJ E qz E E) (zA E (qj E E E E) (zX E (zX E (zK (qo (qm ?_)))))))))))
  change retQ _ _ _ _ _ _ _
  refine retS (qaC 0 6 (noL hL _) (noL hL _)) (retO (O' := [(6, _)]) (.inl E) (qh E (qh E qi)) (SubO.cons E SubO.nil) ?_ ?_ (noL' (noL hL) _) ?_)
  ·rfl
  ·rfl
  refine ⟨?_, rfl⟩
  show AV.tup [.row 6, _] = _
  congr 2
  refine congrArg (fun x => [x]) (qb5 ?_)
  rw [hlr, Bool.eq_iff_iff, decide_eq_true_eq, decide_eq_true_eq]
  omega
 try simp only[↓cqA,cqB]at c0
 omega
theorem flat_prefix (kind rel : Int) (c : List Mt) {A B : List Mt} {i : Nat} {a : Mt} (ha : A[i]? = some a) (j : Nat) : ∃ rest, qcP kind rel c A B = qcP kind rel c (A.take i) B ++ (B.take j).filterMap (qb9 kind rel c a) ++ rest := by
 obtain ⟨q1, q2⟩ := List.getElem?_eq_some_iff.1 ha
 have h1 : A = A.take i ++ a :: A.drop (i + 1) := by
  conv => lhs; rw [← List.take_append_drop i A, List.drop_eq_getElem_cons q1, q2]
 refine ⟨(B.drop j).filterMap (qb9 kind rel c a) ++ qcP kind rel c (A.drop (i + 1)) B, ?_⟩
 conv => lhs; rw [h1]
 simp only [qcP, List.flatMap_append, List.flatMap_cons, List.append_assoc]
 congr 1
 rw [← List.append_assoc, ← List.filterMap_append, List.take_append_drop]
theorem flatM_take (kind rel : Int) (c : List Mt) {A B : List Mt} {i : Nat} {a : Mt} (ha : A[i]? = some a) : qcP kind rel c (A.take (i + 1)) B = qcP kind rel c (A.take i) B ++ B.filterMap (qb9 kind rel c a) := by
 rw [qac ha]
 simp [qcP]
theorem rAll_join {l : List Kp} (hl : listB l = true) (hw : ∀ k ∈ l, k.wf) (d : Nat) (hd : d ≤ 10) (p : Pt) (hp : p.wf) (hb : patB (d + 1) p = true) (hk : p.kind ≠ 1) (ih : AllC l d) : AC Tryz.prog 22 [.dat false 7 (kpDs l), ptA false p] [] (fun r O => r = .tup [.row 6, bv (mAll (d + 1) l p).2] ∧ O = [(6, .rowd 55 4 false (mtDs (mAll (d + 1) l p).1))]) := by
  obtain ⟨hkr, hl1, hr1, hc5, hrel, hbl, hbr, hbc, hc1⟩ := patB_join hb hk
  have hpl := hdP_wf hp.2.2.2.1.2
  have hpr := hdP_wf hp.2.2.2.2.1.2
  have hpc := hdP_wf hp.2.2.2.2.2.2
  have hA := mAll_mem hl hw d (hdP p.l) hpl hbl
  have hB := mAll_mem hl hw d (hdP p.r) hpr hbr
  have hAl := mAll_ok hl hw d (hdP p.l) hpl hbl
  have hBl := mAll_ok hl hw d (hdP p.r) hpr hbr
  have hCC : ∀ x ∈ (if p.kind = 5 then (mAll d l (hdP p.c)).1 else []), MOk (2 ^ d) x := fun x hx => by
    split at hx
    · rename_i h5; exact mAll_mem hl hw d (hdP p.c) hpc (hbc h5) x hx
    · cases hx
  have hCl : (p.kind != 5 || (mAll d l (hdP p.c)).2) = true → (if p.kind = 5 then (mAll d l (hdP p.c)).1 else []).length ≤ 1000 := fun h => by
    split
    · rename_i h5
      rw [h5] at h
      have h2 : (mAll d l (hdP p.c)).2 = true := by simpa using h
      rcases mAll_ok hl hw d (hdP p.c) hpc (hbc h5) with h3 | h3
      · exact h3
      · rw [h2] at h3; cases h3
    · simp
  have h2d : 2 ^ d ≤ 1024 := Nat.le_trans (Nat.pow_le_pow_right (by decide) hd) (by decide)
  have hdl := qaW p.l
  have hdr := qaW p.r
  have hdc := qaW p.c
  have hlA := qau (mAll d l (hdP p.l)).1
  have hlB := qau (mAll d l (hdP p.r)).1
  have hbad : ((mAll d l (hdP p.l)).2 && (mAll d l (hdP p.r)).2 && (p.kind != 5 || (mAll d l (hdP p.c)).2)) = false → mAll (d + 1) l p = ([], false) := fun h => by
    rw [mAll, if_neg hk, if_neg (by rw [h]; exact Bool.noConfusion)]
  have hgood : ((mAll d l (hdP p.l)).2 && (mAll d l (hdP p.r)).2 && (p.kind != 5 || (mAll d l (hdP p.c)).2)) = true → mAll (d + 1) l p = if p.kind = 4 then (qaS ordM (mAll d l (hdP p.l)).1 (mAll d l (hdP p.r)).1, decide ((qaS ordM (mAll d l (hdP p.l)).1 (mAll d l (hdP p.r)).1).length ≤ 1000)) else capM (qaS ordM [] (qcP p.kind p.rel (if p.kind = 5 then (mAll d l (hdP p.c)).1 else []) (mAll d l (hdP p.l)).1 (mAll d l (hdP p.r)).1)) := fun h => by
    rw [mAll, if_neg hk, if_pos h]; rfl
  refine qF Tryz.func22 E Tryz.ntmps22 zL fun c hL hQ hDD => (qd (qb (qy E E zD (qaa 3 E E E) E (zX E (zX E (zK ?_)))))); refine qd (qb (zX E (zK (qd (qd (qb (zA E (qe E qao E) (zA E (ql E qU E E E E E) (zA E (qj E E E E) (zK (qq E (fun c0 => ?_) (fun c0 => ?_))))))))))))
  · try simp only[↓cqA,cqB]at c0
    omega
  try simp only[↓cqA,cqB]at c0
  refine qr (qa (qd (qb (zX E (zA E (qe E qaQ E) (zA E (ql E qM E E E E E) (zA E (qp E qG E E (by omega) (qbN (qdJ (by omega)))) ?_))))))); refine zA E (qC E qad E E) ?_
  refine qaj (avs := [_, _]) false E E E zD qcC E E (AC_rnE 6 86 (ih (hdP p.l) hpl hbl)) E (qbX .nil) (by rintro r O' ⟨_, rfl⟩; exact frB E) (by rintro h; cases h) ?_
  rintro r O' ⟨rfl, rfl⟩
  refine zX E (zA E (qay E E E) (zA E (qay E E E) (zX E (zX E (zK (qd ?_)))))); refine qb (zX E (zA E (qe E qaP E) ?_))
  refine zA E (ql E qM E E E E E) ?_; refine zA E (qp E qG E E (by omega) (qbN (qdJ (by omega)))) ?_; refine zA E (qC E qad E E) ?_; refine qaj (avs := [_, _]) false E E E zD qcC E E (AC_rnE 6 87 (ih (hdP p.r) hpr hbr)) E (qbX .nil) (by rintro r O' ⟨_, rfl⟩; exact frB E) (by rintro h; cases h) ?_
  rintro r O' ⟨rfl, rfl⟩
  refine zX E (zA E (qay E E E) (zA E (qay E E E) (zX E (zX E (zK (qd ?_))))))
  refine qb (zX E (zK (qd (qb (zX E (qc ?_)))))); refine qa (qcN ⟨[(3, .ptr 3 0), (6, .imm (.slice none 0 0)), (10, .row 86), (11, bv (mAll d l (hdP p.l)).2), (12, .row 87), (13, bv (mAll d l (hdP p.r)).2), (14, .dat false 4 (mtDs (if p.kind = 5 then (mAll d l (hdP p.c)).1 else []))), (15, bv (p.kind != 5 || (mAll d l (hdP p.c)).2))], [(3, .box (lift false (ptD p))), (86, .rowd 55 4 false (mtDs (mAll d l (hdP p.l)).1)), (87, .rowd 55 4 false (mtDs (mAll d l (hdP p.r)).1))]⟩ ?_ ?_)
  · refine qd (qb (zA E (qe E qao E) (zA E (ql E qU E E E E E) (zA E (qj E E E E) (zK (qq E (fun c3 => ?_) (fun c3 => ?_)))))))
    · try simp only[↓cqA,cqB]at c3
      refine qb ?_; refine zX E ?_; refine zA E (qe E qaK E) ?_; refine zA E (ql E qM E E E E E) ?_; refine zA E (qp E qG E E (by omega) (qbN (qdJ (by have := hc5.1 (by assumption); omega)))) ?_; refine zA E (qC E qad E E) ?_
      refine qaj (avs := [_, _]) false E E E zD qcC E E (AC_rnE 6 88 (ih (hdP p.c) hpc (hbc (by assumption)))) E (qbX .nil) (by rintro r O' ⟨_, rfl⟩; exact frB E) (by rintro h; cases h) ?_
      rintro r O' ⟨rfl, rfl⟩
      refine zX E (zA E (qay E E E) (zA E (qay E E E) (zX E (zX E (qaB (qa4 (l := 88) E zD (noL hL _) E E) (qc ?_))))))
      exact qai (qB (zC E (zC E (zC E (zC E (zC E (zC E (SubT.cons (qan E (by first | (rw [if_pos (show p.kind = 5 by assumption)]; done) | (rw [if_pos (show p.kind = 5 by assumption)]; rfl) | (rw [if_neg (show ¬ p.kind = 5 by assumption)]; rfl))) (SubT.cons (qan E (by exact qb5 (by simp [c3]))) SubT.nil)))))))) (SubO.cons (qR rfl (by rfl)) (SubO.cons (qR E (by rfl)) (SubO.cons (qR E (by rfl)) SubO.nil))) E E (noL' (noL hL) _))
    try simp only[↓cqA,cqB]at c3
    refine qd3 (sub_nil_dat (t := 14) 4 false E) (qr ?_)
    exact qai (qB (zC E (zC E (zC E (zC E (zC E (zC E (SubT.cons (qan E (by first | (rw [if_pos (show p.kind = 5 by assumption)]; done) | (rw [if_pos (show p.kind = 5 by assumption)]; rfl) | (rw [if_neg (show ¬ p.kind = 5 by assumption)]; rfl))) (SubT.cons (qan E (by exact qb5 (by simp [c3]))) SubT.nil)))))))) (SubO.cons (qR rfl (by rfl)) (SubO.cons (qR E (by rfl)) (SubO.cons (qR E (by rfl)) SubO.nil))) E E (noL' (noL hL) _))
  refine qd (qd (qb (zX E (zA E (qal E E) (zX E (qt 96 E (fun g96 => ?_) (fun g96 => ?_)))))))
  · try simp only[↓cqA,cqB]at g96
    refine zY E (zY E (zA E (qg E E E) (zX E (zY E (zY E ?_)))))
    refine zA E (qg E E E) (zK (qaN E (qd (qb (zX E (zX E ?_)))))); refine zK (qo (qm ?_))
    change retQ _ _ _ _ _ _ _
    first
      | (have hm : mAll (d + 1) l p = ([], false) := by
           first
             | exact hmuch
             | exact hbad (by rw [show (mAll d l (hdP p.l)).2 = false by assumption]; rfl)
             | exact hbad (by rw [show (mAll d l (hdP p.r)).2 = false by assumption, Bool.and_false]; rfl)
             | exact hbad (by rw [show (p.kind != 5 || (mAll d l (hdP p.c)).2) = false by assumption, Bool.and_false])
         rw [hm]
         refine retS (qaU (t := 4) (l := 6) 55 4 false E E) (retO (O' := [(6, _)]) (.inl E) (qh E (qh E qi)) (SubO.cons E SubO.nil) ?_ ?_ (noL' (noL hL) _) ?_)
         · rfl
         · rfl
         exact ⟨rfl, rfl⟩)
      | (rw [hg]
         refine retS (qaC 0 6 (noL hL _) (noL hL _)) (retO (O' := [(6, _)]) (by first | exact .inl E | exact .inr E) (qh E (qh E qi)) (SubO.cons E SubO.nil) ?_ ?_ (noL' (noL hL) _) ?_)
         · rfl
         · rfl
         refine ⟨?_, rfl⟩
         first
           | rfl
           | (show AV.tup [.row 6, _] = _
              congr 2
              refine congrArg (fun x => [x]) (qb5 ?_)
              rw [hlr, Bool.eq_iff_iff, decide_eq_true_eq, decide_eq_true_eq]
              omega))
  try simp only[↓cqA,cqB]at g96
  refine zZ E (qk (.inl E) E) (zZ E (qal E E) (zA E (qg E E E) (zX E (qt 100 E (fun g100 => ?_) (fun g100 => ?_)))))
  · try simp only[↓cqA,cqB]at g100
    refine zY E (zY E (zA E (qg E E E) (zK (qaN E (qd (qb ?_)))))); refine zX E (zX E (zK (qo (qm ?_))))
    change retQ _ _ _ _ _ _ _
    first
      | (have hm : mAll (d + 1) l p = ([], false) := by
           first
             | exact hmuch
             | exact hbad (by rw [show (mAll d l (hdP p.l)).2 = false by assumption]; rfl)
             | exact hbad (by rw [show (mAll d l (hdP p.r)).2 = false by assumption, Bool.and_false]; rfl)
             | exact hbad (by rw [show (p.kind != 5 || (mAll d l (hdP p.c)).2) = false by assumption, Bool.and_false])
         rw [hm]
         refine retS (qaU (t := 4) (l := 6) 55 4 false E E) (retO (O' := [(6, _)]) (.inl E) (qh E (qh E qi)) (SubO.cons E SubO.nil) ?_ ?_ (noL' (noL hL) _) ?_)
         · rfl
         · rfl
         exact ⟨rfl, rfl⟩)
      | (rw [hg]
         refine retS (qaC 0 6 (noL hL _) (noL hL _)) (retO (O' := [(6, _)]) (by first | exact .inl E | exact .inr E) (qh E (qh E qi)) (SubO.cons E SubO.nil) ?_ ?_ (noL' (noL hL) _) ?_)
         · rfl
         · rfl
         refine ⟨?_, rfl⟩
         first
           | rfl
           | (show AV.tup [.row 6, _] = _
              congr 2
              refine congrArg (fun x => [x]) (qb5 ?_)
              rw [hlr, Bool.eq_iff_iff, decide_eq_true_eq, decide_eq_true_eq]
              omega))
  try simp only[↓cqA,cqB]at g100
  refine zZ E (qk (.inl E) E) (zZ E (qal E E) (zA E (qg E E E) (zK (qq E (fun c4 => ?_) (fun c4 => ?_)))))
  · try simp only[↓cqA,cqB]at c4
    refine qd (qb (zX E (zX E (zK (qo (qm ?_))))))
    change retQ _ _ _ _ _ _ _
    first
      | (have hm : mAll (d + 1) l p = ([], false) := by
           first
             | exact hmuch
             | exact hbad (by rw [show (mAll d l (hdP p.l)).2 = false by assumption]; rfl)
             | exact hbad (by rw [show (mAll d l (hdP p.r)).2 = false by assumption, Bool.and_false]; rfl)
             | exact hbad (by rw [show (p.kind != 5 || (mAll d l (hdP p.c)).2) = false by assumption, Bool.and_false])
         rw [hm]
         refine retS (qaU (t := 4) (l := 6) 55 4 false E E) (retO (O' := [(6, _)]) (.inl E) (qh E (qh E qi)) (SubO.cons E SubO.nil) ?_ ?_ (noL' (noL hL) _) ?_)
         · rfl
         · rfl
         exact ⟨rfl, rfl⟩)
      | (rw [hg]
         refine retS (qaC 0 6 (noL hL _) (noL hL _)) (retO (O' := [(6, _)]) (by first | exact .inl E | exact .inr E) (qh E (qh E qi)) (SubO.cons E SubO.nil) ?_ ?_ (noL' (noL hL) _) ?_)
         · rfl
         · rfl
         refine ⟨?_, rfl⟩
         first
           | rfl
           | (show AV.tup [.row 6, _] = _
              congr 2
              refine congrArg (fun x => [x]) (qb5 ?_)
              rw [hlr, Bool.eq_iff_iff, decide_eq_true_eq, decide_eq_true_eq]
              omega))
  try simp only[↓cqA,cqB]at c4
  have hfl : ((mAll d l (hdP p.l)).2 && (mAll d l (hdP p.r)).2 && (p.kind != 5 || (mAll d l (hdP p.c)).2)) = true := by rw [show (mAll d l (hdP p.l)).2 = true by assumption, show (mAll d l (hdP p.r)).2 = true by assumption, show (p.kind != 5 || (mAll d l (hdP p.c)).2) = true by assumption]; rfl
  have hg := hgood hfl
  have hA1 : (mAll d l (hdP p.l)).1.length ≤ 1000 := hAl.resolve_right (by rw [show (mAll d l (hdP p.l)).2 = true by assumption]; exact Bool.noConfusion)
  have hB1 : (mAll d l (hdP p.r)).1.length ≤ 1000 := hBl.resolve_right (by rw [show (mAll d l (hdP p.r)).2 = true by assumption]; exact Bool.noConfusion)
  have hC1 := hCl (by assumption)
  generalize hcc : (if p.kind = 5 then (mAll d l (hdP p.c)).1 else []) = cc at *
  refine qr (qa (qd (qd (qb (zA E (qe E qao E) (zA E (ql E qU E E E E E) (zA E (qj E E E E) ?_))))))); refine zK (qq E (fun c5 => ?_) (fun c5 => ?_))
  · try simp only[↓cqA,cqB]at c5
    rw [if_pos (show p.kind = 4 by assumption)] at hg
    refine qd (qd (qb (zX E (zK (qv (q6 ((mAll d l (hdP p.r)).1.length) (fun i => i ≤ (mAll d l (hdP p.r)).1.length) (fun i => ⟨[(10, .row 0), (12, .row 87), (16, iv (i : Int))], [(0, .rowd 55 4 false (mtDs (qaS ordM (mAll d l (hdP p.l)).1 ((mAll d l (hdP p.r)).1.take i)))), (87, .rowd 55 4 false (mtDs (mAll d l (hdP p.r)).1))]⟩) (by omega) ?_ (fun i hi hpi => ?_)))))))
    · exact Sub.trans (qaC 86 0 (noL hL _) (noL hL _)) (qB (zC E (zC E (zC E SubT.nil))) (SubO.cons (qR E (by rfl)) (SubO.cons (qR E (by rfl)) SubO.nil)) E E (noL' (noL hL) _))
    refine qd (qd (qb (zX E (zX E (zA E (qcJ E qz E E) (zA E (qj E E E E) (qc ?_))))))); refine qa (qq E (fun c6 => ?_) (fun c6 => ?_))
    · try simp only[↓cqA,cqB]at c6
      obtain ⟨x, hx⟩ := qH (l := (mAll d l (hdP p.r)).1) (k := i) (by omega)
      have hxo := (hB x (List.mem_of_getElem? hx)).io (by omega)
      have hcur : (qaS ordM (mAll d l (hdP p.l)).1 ((mAll d l (hdP p.r)).1.take i)).length ≤ 1000000 := by
        have := (putsG_len (f := ordM) ((mAll d l (hdP p.r)).1.take i) (mAll d l (hdP p.l)).1).2
        rw [List.length_take] at this; omega
      have hcin : ∀ a ∈ qaS ordM (mAll d l (hdP p.l)).1 ((mAll d l (hdP p.r)).1.take i), a.wf ∧ ∀ x ∈ a.b, dle 5 x.t := fun a ha => by
        rcases putsG_in _ _ _ ha with h | h
        · exact (hA a h).io (by omega)
        · exact (hB a (List.mem_of_mem_take h)).io (by omega)
      refine qr (qa (qd (qv (qb (zX E (zX E (zX E ?_))))))); refine zA E (qc0 E qz E E E (by omega) (by omega)) (zA E (stp_load_rowdi i 0 E qV E E (by omega) (qa9 hx) E E E) (awps_via ⟨[(118, .row 0), (12, .row 87), (16, iv (i : Int))], (0, .rowd 55 4 false (mtDs (putG ordM (qaS ordM (mAll d l (hdP p.l)).1 ((mAll d l (hdP p.r)).1.take i)) (x)))) :: [(87, .rowd 55 4 false (mtDs (mAll d l (hdP p.r)).1))]⟩ (fun Q2 K => ?_) ?_))
      · refine qaB (qB (T1 := [(113, .row 0), (117, mtA (x)), (12, .row 87), (16, iv (i : Int))]) (O1 := (0, .rowd 55 4 false (mtDs (qaS ordM (mAll d l (hdP p.l)).1 ((mAll d l (hdP p.r)).1.take i)))) :: [(87, .rowd 55 4 false (mtDs (mAll d l (hdP p.r)).1))]) (zB E (zB E (zB E (zB E SubT.nil)))) (SubO.cons E (SubO.cons E SubO.nil)) E E (noL' (noL hL) _)) ?_
        have h9 := qau (qaS ordM (mAll d l (hdP p.l)).1 ((mAll d l (hdP p.r)).1.take i))
        refine awps_open (l := 0) E zD (noL hL _) (fun he => ?_) (fun cap h1 h2 => ?_)
        · have hl0 : (qaS ordM (mAll d l (hdP p.l)).1 ((mAll d l (hdP p.r)).1.take i)) = [] := by
            rw [he] at h9; exact List.eq_nil_of_length_eq_zero h9.symm
          rw [hl0] at K
          refine qaj (avs := [_, _]) false E E E zD qa6 E E (put13Nil_ok (x) hxo.1) E (qbX .nil) (by rintro r O' ⟨_, rfl⟩; exact frB E) (by rintro h; cases h) ?_
          rintro r O' ⟨rfl, rfl⟩
          exact qaB (Sub.trans (qB (T1 := [(118, .row 9), (12, .row 87), (16, iv (i : Int))]) (O1 := (9, .rowd 55 4 false (mtDs (putG ordM [] (x)))) :: [(87, .rowd 55 4 false (mtDs (mAll d l (hdP p.r)).1))]) (zB E (zB E (zB E SubT.nil))) (SubO.cons E (SubO.cons E SubO.nil)) E E (noL' (noL hL) _)) (Sub.trans (qaC 9 0 (noL hL _) (noL hL _)) (qB (zB E (zB E (zB E SubT.nil))) (SubO.cons E (SubO.cons E SubO.nil)) E E (noL' (noL hL) _)))) K
        · by_cases hroom : (qaS ordM (mAll d l (hdP p.l)).1 ((mAll d l (hdP p.r)).1.take i)).length + 1 ≤ cap
          · refine qaj (avs := [_, _]) false E E E zD qa6 E E (put13R_ok (qaS ordM (mAll d l (hdP p.l)).1 ((mAll d l (hdP p.r)).1.take i)) hcur hcin (x) hxo.1 cap (by omega) h2 hroom) E (qbX (.cons E trivial E .nil)) (by rintro r O' ⟨J, c2, _, ⟨_, rfl⟩ | ⟨_, rfl⟩⟩ <;> exact frB E) (by rintro h; cases h) ?_
            rintro r O' ⟨J, c2, hc2, ⟨rfl, rfl⟩ | ⟨rfl, rfl⟩⟩
            · exact qaB (Sub.trans (qcm (l := 0) (cap := c2) (n := (mtDs (putG ordM (qaS ordM (mAll d l (hdP p.l)).1 ((mAll d l (hdP p.r)).1.take i)) (x))).length) (mtDs (putG ordM (qaS ordM (mAll d l (hdP p.l)).1 ((mAll d l (hdP p.r)).1.take i)) (x))) E (noL hL _) ⟨J, rfl⟩ E (by simp; omega)) (qB (SubT.cons (qan E (by simp [AV.rp, clV])) (zB rfl (zB rfl SubT.nil))) (SubO.cons rfl (SubO.cons rfl SubO.nil)) rfl rfl (noL' (noL hL) _))) K
            · exact qaB (Sub.trans (qcm (l := 9) (cap := c2) (n := (mtDs (putG ordM (qaS ordM (mAll d l (hdP p.l)).1 ((mAll d l (hdP p.r)).1.take i)) (x))).length) (mtDs (putG ordM (qaS ordM (mAll d l (hdP p.l)).1 ((mAll d l (hdP p.r)).1.take i)) (x))) E (noL hL _) ⟨J, rfl⟩ E (by simp; omega)) (Sub.trans (qB (T1 := [(118, .row 9), (12, .row 87), (16, iv (i : Int))]) (O1 := (9, .rowd 55 4 false (mtDs (putG ordM (qaS ordM (mAll d l (hdP p.l)).1 ((mAll d l (hdP p.r)).1.take i)) (x)))) :: [(87, .rowd 55 4 false (mtDs (mAll d l (hdP p.r)).1))]) (SubT.cons (qan E (by simp [AV.rp, clV])) (zB rfl (zB rfl SubT.nil))) (SubO.cons rfl (SubO.cons rfl SubO.nil)) rfl rfl (noL' (noL hL) _)) (Sub.trans (qaC 9 0 (noL hL _) (noL hL _)) (qB (zB rfl (zB rfl (zB rfl SubT.nil))) (SubO.cons rfl (SubO.cons rfl SubO.nil)) rfl rfl (noL' (noL hL) _))))) K
          · refine qaj (avs := [_, _]) false E E E zD qa6 E E (put13G_ok (qaS ordM (mAll d l (hdP p.l)).1 ((mAll d l (hdP p.r)).1.take i)) hcur hcin (x) hxo.1 cap (by omega) h2 (by omega)) E (qbX (.cons E trivial E .nil)) (by rintro r O' ⟨J, c2, _, ⟨_, rfl⟩ | ⟨_, rfl⟩⟩ <;> exact frB E) (by rintro h; cases h) ?_
            rintro r O' ⟨J, c2, hc2, ⟨rfl, rfl⟩ | ⟨rfl, rfl⟩⟩
            · exact qaB (Sub.trans (qcm (l := 0) (cap := c2) (n := (mtDs (putG ordM (qaS ordM (mAll d l (hdP p.l)).1 ((mAll d l (hdP p.r)).1.take i)) (x))).length) (mtDs (putG ordM (qaS ordM (mAll d l (hdP p.l)).1 ((mAll d l (hdP p.r)).1.take i)) (x))) E (noL hL _) ⟨J, rfl⟩ E (by simp; omega)) (qB (SubT.cons (qan E (by simp [AV.rp, clV])) (zB rfl (zB rfl SubT.nil))) (SubO.cons rfl (SubO.cons rfl SubO.nil)) rfl rfl (noL' (noL hL) _))) K
            · exact qaB (Sub.trans (qcm (l := 9) (cap := c2) (n := (mtDs (putG ordM (qaS ordM (mAll d l (hdP p.l)).1 ((mAll d l (hdP p.r)).1.take i)) (x))).length) (mtDs (putG ordM (qaS ordM (mAll d l (hdP p.l)).1 ((mAll d l (hdP p.r)).1.take i)) (x))) E (noL hL _) ⟨J, rfl⟩ E (by simp; omega)) (Sub.trans (qB (T1 := [(118, .row 9), (12, .row 87), (16, iv (i : Int))]) (O1 := (9, .rowd 55 4 false (mtDs (putG ordM (qaS ordM (mAll d l (hdP p.l)).1 ((mAll d l (hdP p.r)).1.take i)) (x)))) :: [(87, .rowd 55 4 false (mtDs (mAll d l (hdP p.r)).1))]) (SubT.cons (qan E (by simp [AV.rp, clV])) (zB rfl (zB rfl SubT.nil))) (SubO.cons rfl (SubO.cons rfl SubO.nil)) rfl rfl (noL' (noL hL) _)) (Sub.trans (qaC 9 0 (noL hL _) (noL hL _)) (qB (zB rfl (zB rfl (zB rfl SubT.nil))) (SubO.cons rfl (SubO.cons rfl SubO.nil)) rfl rfl (noL' (noL hL) _))))) K
      refine zX E (qc (qP (qa (qb (zX E (zA E (qJ E E E (by omega)) (zX E ?_))))))); refine zK ?_; refine ⟨?_, ?_, ?_⟩
      · omega
      · omega
      exact zR hL (zC E (zC E (zC E SubT.nil))) (SubO.cons (qR E (by rw [qac (by assumption), putsG_app]; rfl)) (SubO.cons (qR E (by rfl)) SubO.nil))
    try simp only[↓cqA,cqB]at c6
    have hall : (mAll d l (hdP p.r)).1.take i = (mAll d l (hdP p.r)).1 := List.take_of_length_le (by omega)
    have hlr := qau (qaS ordM (mAll d l (hdP p.l)).1 (mAll d l (hdP p.r)).1)
    rw [hall]
    refine qQ (qn (qn (qX ?_))); refine qa (qd (qb (zX E (zX E (zA E (qcJ E qz E E) (zA E (qj E E E E) (zX E (zX E (zK (qo (qm ?_)))))))))))
    change retQ _ _ _ _ _ _ _
    first
      | (have hm : mAll (d + 1) l p = ([], false) := by
           first
             | exact hmuch
             | exact hbad (by rw [show (mAll d l (hdP p.l)).2 = false by assumption]; rfl)
             | exact hbad (by rw [show (mAll d l (hdP p.r)).2 = false by assumption, Bool.and_false]; rfl)
             | exact hbad (by rw [show (p.kind != 5 || (mAll d l (hdP p.c)).2) = false by assumption, Bool.and_false])
         rw [hm]
         refine retS (qaU (t := 4) (l := 6) 55 4 false E E) (retO (O' := [(6, _)]) (.inl E) (qh E (qh E qi)) (SubO.cons E SubO.nil) ?_ ?_ (noL' (noL hL) _) ?_)
         · rfl
         · rfl
         exact ⟨rfl, rfl⟩)
      | (rw [hg]
         refine retS (qaC 0 6 (noL hL _) (noL hL _)) (retO (O' := [(6, _)]) (by first | exact .inl E | exact .inr E) (qh E (qh E qi)) (SubO.cons E SubO.nil) ?_ ?_ (noL' (noL hL) _) ?_)
         · rfl
         · rfl
         refine ⟨?_, rfl⟩
         first
           | rfl
           | (show AV.tup [.row 6, _] = _
              congr 2
              refine congrArg (fun x => [x]) (qb5 ?_)
              rw [hlr, Bool.eq_iff_iff, decide_eq_true_eq, decide_eq_true_eq]
              omega))
  try simp only[↓cqA,cqB]at c5
  rw [if_neg (show ¬ p.kind = 4 by assumption)] at hg
  refine qr (qa (qd (qd (qb (zX E (zK ?_)))))); refine qv ?_
  refine q6 ((mAll d l (hdP p.l)).1.length) (fun i => i ≤ (mAll d l (hdP p.l)).1.length ∧ (qaS ordM [] (qcP p.kind p.rel cc ((mAll d l (hdP p.l)).1.take i) (mAll d l (hdP p.r)).1)).length ≤ 1000) (fun i => ⟨[(3, .ptr 3 0), (6, .row 0), (10, .row 86), (12, .row 87), (14, .dat false 4 (mtDs cc)), (17, iv (i : Int))], [(0, .rowd 55 4 false (mtDs (qaS ordM [] (qcP p.kind p.rel cc ((mAll d l (hdP p.l)).1.take i) (mAll d l (hdP p.r)).1)))), (3, .box (lift false (ptD p))), (86, .rowd 55 4 false (mtDs (mAll d l (hdP p.l)).1)), (87, .rowd 55 4 false (mtDs (mAll d l (hdP p.r)).1))]⟩) (⟨by omega, by simp [qcP, qaS]⟩) ?_ (fun i hi hpi => ?_)
  · exact Sub.trans (qaU (t := 6) (l := 0) 55 4 false E E) (qB (zC E (zC E (zC E (zC E (zC E (zC E SubT.nil)))))) (SubO.cons (qR E (by rfl)) (SubO.cons (qR E (by rfl)) (SubO.cons (qR E (by rfl)) (SubO.cons (qR E (by rfl)) SubO.nil)))) E E (noL' (noL hL) _))
  refine qd (qd (qb (zX E (zX E (zA E (qcJ E qz E E) (zA E (qj E E E E) (qc ?_))))))); refine qa (qq E (fun c7 => ?_) (fun c7 => ?_))
  · try simp only[↓cqA,cqB]at c7
    obtain ⟨a, ha⟩ := qH (l := (mAll d l (hdP p.l)).1) (k := i) (by omega)
    have hao := hA a (List.mem_of_getElem? ha)
    have hft := flatM_take p.kind p.rel cc (B := (mAll d l (hdP p.r)).1) ha
    refine qr (qa (qd (qv (qd (qb (zX E (qc ?_))))))); refine qa (qv ?_)
    refine q6 ((mAll d l (hdP p.r)).1.length) (fun j => j ≤ (mAll d l (hdP p.r)).1.length ∧ (qaS ordM [] (qcP p.kind p.rel cc ((mAll d l (hdP p.l)).1.take i) (mAll d l (hdP p.r)).1 ++ ((mAll d l (hdP p.r)).1.take j).filterMap (qb9 p.kind p.rel cc a))).length ≤ 1000) (fun j => ⟨[(3, .ptr 3 0), (6, .row 0), (10, .row 86), (12, .row 87), (14, .dat false 4 (mtDs cc)), (17, iv (i : Int)), (18, iv (j : Int))], [(0, .rowd 55 4 false (mtDs (qaS ordM [] (qcP p.kind p.rel cc ((mAll d l (hdP p.l)).1.take i) (mAll d l (hdP p.r)).1 ++ ((mAll d l (hdP p.r)).1.take j).filterMap (qb9 p.kind p.rel cc a))))), (3, .box (lift false (ptD p))), (86, .rowd 55 4 false (mtDs (mAll d l (hdP p.l)).1)), (87, .rowd 55 4 false (mtDs (mAll d l (hdP p.r)).1))]⟩) (⟨by omega, by simpa using hpi.2⟩) ?_ (fun j hj hpj => ?_)
    · exact zR hL (zC E (zC E (zC E (zC E (zC E (zC E (zC E SubT.nil))))))) (SubO.cons (qR E (by rw [List.take_zero, List.filterMap_nil, List.append_nil])) (SubO.cons (qR rfl (by rfl)) (SubO.cons (qR E (by rfl)) (SubO.cons (qR E (by rfl)) SubO.nil))))
    refine qd (qd (qb (zX E (zX E (zA E (qcJ E qz E E) (zA E (qj E E E E) (qc ?_))))))); refine qa (qq E (fun c8 => ?_) (fun c8 => ?_))
    · try simp only[↓cqA,cqB]at c8
      obtain ⟨b, hbb⟩ := qH (l := (mAll d l (hdP p.r)).1) (k := j) (by omega)
      have hbo := hB b (List.mem_of_getElem? hbb)
      have hft2 := filterMap_take (qb9 p.kind p.rel cc a) hbb
      have hcin : ∀ x ∈ qaS ordM [] (qcP p.kind p.rel cc ((mAll d l (hdP p.l)).1.take i) (mAll d l (hdP p.r)).1 ++ ((mAll d l (hdP p.r)).1.take j).filterMap (qb9 p.kind p.rel cc a)), x.wf ∧ ∀ y ∈ x.b, dle 5 y.t := fun x hx => by
        rcases putsG_in _ _ _ hx with h | h
        · cases h
        · rcases List.mem_append.1 h with h | h
          · exact (flatM_ok (fun y hy => hA y (List.mem_of_mem_take hy)) hB x h).io (by omega)
          · obtain ⟨y, hy, h⟩ := List.mem_filterMap.1 h
            exact (joinM_ok hao (hB y (List.mem_of_mem_take hy)) h).io (by omega)
      refine qr (qa (qd (qv (qd (qZ 16 mixed E E E E (qf E zD (.run E (qK E qad E E E E)) (qf E zD (.run E (qk (.inl E) E)) ?_))))))); refine qf E zD (.run E (qk (.inl E) E)) (qf E zD (.run E (qc0 E qz E E E (by omega) (by omega))) (qf E zD (.run E (stp_load_rowdi i 0 E qV E E (by omega) (qa9 ha) E E E)) (qf E zD (.run E (qk (.inl E) E)) (qf E zD (.run E (qk (.inl E) E)) (qf E zD (.run E (qc0 E qz E E E (by omega) (by omega))) (qf E zD (.run E (stp_load_rowdi j 0 E qV E E (by omega) (qa9 hbb) E E E)) (qf E zD (.run E (qk (.inl E) E)) ?_)))))))
      refine qf E zD (.run E (qY (avs := [_, _, _, _]) false E en_almagestref13_joined E E (joined_ok p (n := 2 ^ d) (k := 2 ^ d) (q := 2 ^ d) (by omega) (by omega) a b hao hbo cc hCC (by omega) hrel) (fun _ => rfl) E)) (qf E zD (.run E (qk (.inl E) E)) (qf E zD (.run E (qay E E E)) ?_))
      refine qf E zD (.run E (qay E E E)) (MGo_c1 E zD (.run E (qaD 19 E qax E)) (MGo_un E E (stpU_store E E qV E E E E E E E E E) (qak ⟨rfl, rfl, ?_⟩))); refine zX E (zK (qd (qd (qb (zX E (zK (qq E (fun c9 => ?_) (fun c9 => ?_))))))))
      · try simp only[↓cqA,cqB]at c9
        obtain ⟨m, hj⟩ := Option.isSome_iff_exists.1 c9
        have hmo := (joinM_ok hao hbo hj).io (by omega)
        rw [hj] at hft2
        rw [hj]
        have hlst : qaS ordM [] (qcP p.kind p.rel cc ((mAll d l (hdP p.l)).1.take i) (mAll d l (hdP p.r)).1 ++ ((mAll d l (hdP p.r)).1.take (j + 1)).filterMap (qb9 p.kind p.rel cc a)) = putG ordM (qaS ordM [] (qcP p.kind p.rel cc ((mAll d l (hdP p.l)).1.take i) (mAll d l (hdP p.r)).1 ++ ((mAll d l (hdP p.r)).1.take j).filterMap (qb9 p.kind p.rel cc a))) m := by
          rw [hft2, ← List.append_assoc, putsG_app]; rfl
        refine qb (zX E (zA E (qK E qV E E E E) (awps_via ⟨[(152, .row 0), (3, .ptr 3 0), (10, .row 86), (12, .row 87), (14, .dat false 4 (mtDs cc)), (17, iv (i : Int)), (18, iv (j : Int))], (0, .rowd 55 4 false (mtDs (putG ordM (qaS ordM [] (qcP p.kind p.rel cc ((mAll d l (hdP p.l)).1.take i) (mAll d l (hdP p.r)).1 ++ ((mAll d l (hdP p.r)).1.take j).filterMap (qb9 p.kind p.rel cc a))) (m)))) :: [(3, .box (lift false (ptD p))), (86, .rowd 55 4 false (mtDs (mAll d l (hdP p.l)).1)), (87, .rowd 55 4 false (mtDs (mAll d l (hdP p.r)).1))]⟩ (fun Q2 K => ?_) ?_)))
        · refine qaB (qB (T1 := [(150, .row 0), (151, mtA (m)), (3, .ptr 3 0), (10, .row 86), (12, .row 87), (14, .dat false 4 (mtDs cc)), (17, iv (i : Int)), (18, iv (j : Int))]) (O1 := (0, .rowd 55 4 false (mtDs (qaS ordM [] (qcP p.kind p.rel cc ((mAll d l (hdP p.l)).1.take i) (mAll d l (hdP p.r)).1 ++ ((mAll d l (hdP p.r)).1.take j).filterMap (qb9 p.kind p.rel cc a))))) :: [(3, .box (lift false (ptD p))), (86, .rowd 55 4 false (mtDs (mAll d l (hdP p.l)).1)), (87, .rowd 55 4 false (mtDs (mAll d l (hdP p.r)).1))]) (zB E (zB E (zB E (zB E (zB E (zB E (zB E (zB E SubT.nil)))))))) (SubO.cons E (SubO.cons E (SubO.cons E (SubO.cons E SubO.nil)))) E E (noL' (noL hL) _)) ?_
          have h9 := qau (qaS ordM [] (qcP p.kind p.rel cc ((mAll d l (hdP p.l)).1.take i) (mAll d l (hdP p.r)).1 ++ ((mAll d l (hdP p.r)).1.take j).filterMap (qb9 p.kind p.rel cc a)))
          refine awps_open (l := 0) E zD (noL hL _) (fun he => ?_) (fun cap h1 h2 => ?_)
          · have hl0 : (qaS ordM [] (qcP p.kind p.rel cc ((mAll d l (hdP p.l)).1.take i) (mAll d l (hdP p.r)).1 ++ ((mAll d l (hdP p.r)).1.take j).filterMap (qb9 p.kind p.rel cc a))) = [] := by
              rw [he] at h9; exact List.eq_nil_of_length_eq_zero h9.symm
            rw [hl0] at K
            refine qaj (avs := [_, _]) false E E E zD qa6 E E (put13Nil_ok (m) hmo.1) E (qbX .nil) (by rintro r O' ⟨_, rfl⟩; exact frB E) (by rintro h; cases h) ?_
            rintro r O' ⟨rfl, rfl⟩
            exact qaB (Sub.trans (qB (T1 := [(152, .row 9), (3, .ptr 3 0), (10, .row 86), (12, .row 87), (14, .dat false 4 (mtDs cc)), (17, iv (i : Int)), (18, iv (j : Int))]) (O1 := (9, .rowd 55 4 false (mtDs (putG ordM [] (m)))) :: [(3, .box (lift false (ptD p))), (86, .rowd 55 4 false (mtDs (mAll d l (hdP p.l)).1)), (87, .rowd 55 4 false (mtDs (mAll d l (hdP p.r)).1))]) (zB E (zB E (zB E (zB E (zB E (zB E (zB E SubT.nil))))))) (SubO.cons E (SubO.cons E (SubO.cons E (SubO.cons E SubO.nil)))) E E (noL' (noL hL) _)) (Sub.trans (qaC 9 0 (noL hL _) (noL hL _)) (qB (zB E (zB E (zB E (zB E (zB E (zB E (zB E SubT.nil))))))) (SubO.cons E (SubO.cons E (SubO.cons E (SubO.cons E SubO.nil)))) E E (noL' (noL hL) _)))) K
          · by_cases hroom : (qaS ordM [] (qcP p.kind p.rel cc ((mAll d l (hdP p.l)).1.take i) (mAll d l (hdP p.r)).1 ++ ((mAll d l (hdP p.r)).1.take j).filterMap (qb9 p.kind p.rel cc a))).length + 1 ≤ cap
            · refine qaj (avs := [_, _]) false E E E zD qa6 E E (put13R_ok (qaS ordM [] (qcP p.kind p.rel cc ((mAll d l (hdP p.l)).1.take i) (mAll d l (hdP p.r)).1 ++ ((mAll d l (hdP p.r)).1.take j).filterMap (qb9 p.kind p.rel cc a))) (by omega) hcin (m) hmo.1 cap (by omega) h2 hroom) E (qbX (.cons E trivial E .nil)) (by rintro r O' ⟨J, c2, _, ⟨_, rfl⟩ | ⟨_, rfl⟩⟩ <;> exact frB E) (by rintro h; cases h) ?_
              rintro r O' ⟨J, c2, hc2, ⟨rfl, rfl⟩ | ⟨rfl, rfl⟩⟩
              · exact qaB (Sub.trans (qcm (l := 0) (cap := c2) (n := (mtDs (putG ordM (qaS ordM [] (qcP p.kind p.rel cc ((mAll d l (hdP p.l)).1.take i) (mAll d l (hdP p.r)).1 ++ ((mAll d l (hdP p.r)).1.take j).filterMap (qb9 p.kind p.rel cc a))) (m))).length) (mtDs (putG ordM (qaS ordM [] (qcP p.kind p.rel cc ((mAll d l (hdP p.l)).1.take i) (mAll d l (hdP p.r)).1 ++ ((mAll d l (hdP p.r)).1.take j).filterMap (qb9 p.kind p.rel cc a))) (m))) E (noL hL _) ⟨J, rfl⟩ E (by simp; omega)) (qB (SubT.cons (qan E (by simp [AV.rp, clV])) (zB rfl (zB rfl (zB rfl (zB rfl (zB rfl (zB rfl SubT.nil))))))) (SubO.cons rfl (SubO.cons rfl (SubO.cons rfl (SubO.cons rfl SubO.nil)))) rfl rfl (noL' (noL hL) _))) K
              · exact qaB (Sub.trans (qcm (l := 9) (cap := c2) (n := (mtDs (putG ordM (qaS ordM [] (qcP p.kind p.rel cc ((mAll d l (hdP p.l)).1.take i) (mAll d l (hdP p.r)).1 ++ ((mAll d l (hdP p.r)).1.take j).filterMap (qb9 p.kind p.rel cc a))) (m))).length) (mtDs (putG ordM (qaS ordM [] (qcP p.kind p.rel cc ((mAll d l (hdP p.l)).1.take i) (mAll d l (hdP p.r)).1 ++ ((mAll d l (hdP p.r)).1.take j).filterMap (qb9 p.kind p.rel cc a))) (m))) E (noL hL _) ⟨J, rfl⟩ E (by simp; omega)) (Sub.trans (qB (T1 := [(152, .row 9), (3, .ptr 3 0), (10, .row 86), (12, .row 87), (14, .dat false 4 (mtDs cc)), (17, iv (i : Int)), (18, iv (j : Int))]) (O1 := (9, .rowd 55 4 false (mtDs (putG ordM (qaS ordM [] (qcP p.kind p.rel cc ((mAll d l (hdP p.l)).1.take i) (mAll d l (hdP p.r)).1 ++ ((mAll d l (hdP p.r)).1.take j).filterMap (qb9 p.kind p.rel cc a))) (m)))) :: [(3, .box (lift false (ptD p))), (86, .rowd 55 4 false (mtDs (mAll d l (hdP p.l)).1)), (87, .rowd 55 4 false (mtDs (mAll d l (hdP p.r)).1))]) (SubT.cons (qan E (by simp [AV.rp, clV])) (zB rfl (zB rfl (zB rfl (zB rfl (zB rfl (zB rfl SubT.nil))))))) (SubO.cons rfl (SubO.cons rfl (SubO.cons rfl (SubO.cons rfl SubO.nil)))) rfl rfl (noL' (noL hL) _)) (Sub.trans (qaC 9 0 (noL hL _) (noL hL _)) (qB (zB rfl (zB rfl (zB rfl (zB rfl (zB rfl (zB rfl (zB rfl SubT.nil))))))) (SubO.cons rfl (SubO.cons rfl (SubO.cons rfl (SubO.cons rfl SubO.nil)))) rfl rfl (noL' (noL hL) _))))) K
            · refine qaj (avs := [_, _]) false E E E zD qa6 E E (put13G_ok (qaS ordM [] (qcP p.kind p.rel cc ((mAll d l (hdP p.l)).1.take i) (mAll d l (hdP p.r)).1 ++ ((mAll d l (hdP p.r)).1.take j).filterMap (qb9 p.kind p.rel cc a))) (by omega) hcin (m) hmo.1 cap (by omega) h2 (by omega)) E (qbX (.cons E trivial E .nil)) (by rintro r O' ⟨J, c2, _, ⟨_, rfl⟩ | ⟨_, rfl⟩⟩ <;> exact frB E) (by rintro h; cases h) ?_
              rintro r O' ⟨J, c2, hc2, ⟨rfl, rfl⟩ | ⟨rfl, rfl⟩⟩
              · exact qaB (Sub.trans (qcm (l := 0) (cap := c2) (n := (mtDs (putG ordM (qaS ordM [] (qcP p.kind p.rel cc ((mAll d l (hdP p.l)).1.take i) (mAll d l (hdP p.r)).1 ++ ((mAll d l (hdP p.r)).1.take j).filterMap (qb9 p.kind p.rel cc a))) (m))).length) (mtDs (putG ordM (qaS ordM [] (qcP p.kind p.rel cc ((mAll d l (hdP p.l)).1.take i) (mAll d l (hdP p.r)).1 ++ ((mAll d l (hdP p.r)).1.take j).filterMap (qb9 p.kind p.rel cc a))) (m))) E (noL hL _) ⟨J, rfl⟩ E (by simp; omega)) (qB (SubT.cons (qan E (by simp [AV.rp, clV])) (zB rfl (zB rfl (zB rfl (zB rfl (zB rfl (zB rfl SubT.nil))))))) (SubO.cons rfl (SubO.cons rfl (SubO.cons rfl (SubO.cons rfl SubO.nil)))) rfl rfl (noL' (noL hL) _))) K
              · exact qaB (Sub.trans (qcm (l := 9) (cap := c2) (n := (mtDs (putG ordM (qaS ordM [] (qcP p.kind p.rel cc ((mAll d l (hdP p.l)).1.take i) (mAll d l (hdP p.r)).1 ++ ((mAll d l (hdP p.r)).1.take j).filterMap (qb9 p.kind p.rel cc a))) (m))).length) (mtDs (putG ordM (qaS ordM [] (qcP p.kind p.rel cc ((mAll d l (hdP p.l)).1.take i) (mAll d l (hdP p.r)).1 ++ ((mAll d l (hdP p.r)).1.take j).filterMap (qb9 p.kind p.rel cc a))) (m))) E (noL hL _) ⟨J, rfl⟩ E (by simp; omega)) (Sub.trans (qB (T1 := [(152, .row 9), (3, .ptr 3 0), (10, .row 86), (12, .row 87), (14, .dat false 4 (mtDs cc)), (17, iv (i : Int)), (18, iv (j : Int))]) (O1 := (9, .rowd 55 4 false (mtDs (putG ordM (qaS ordM [] (qcP p.kind p.rel cc ((mAll d l (hdP p.l)).1.take i) (mAll d l (hdP p.r)).1 ++ ((mAll d l (hdP p.r)).1.take j).filterMap (qb9 p.kind p.rel cc a))) (m)))) :: [(3, .box (lift false (ptD p))), (86, .rowd 55 4 false (mtDs (mAll d l (hdP p.l)).1)), (87, .rowd 55 4 false (mtDs (mAll d l (hdP p.r)).1))]) (SubT.cons (qan E (by simp [AV.rp, clV])) (zB rfl (zB rfl (zB rfl (zB rfl (zB rfl (zB rfl SubT.nil))))))) (SubO.cons rfl (SubO.cons rfl (SubO.cons rfl (SubO.cons rfl SubO.nil)))) rfl rfl (noL' (noL hL) _)) (Sub.trans (qaC 9 0 (noL hL _) (noL hL _)) (qB (zB rfl (zB rfl (zB rfl (zB rfl (zB rfl (zB rfl (zB rfl SubT.nil))))))) (SubO.cons rfl (SubO.cons rfl (SubO.cons rfl (SubO.cons rfl SubO.nil)))) rfl rfl (noL' (noL hL) _))))) K
        refine zX E (zK (qd (qb (zX E (zA E (qcJ E qz E E) (zA E (qj E E E E) ?_)))))); refine zK (qq E (fun c10 => ?_) (fun c10 => ?_))
        · try simp only[↓cqA,cqB]at c10
          have hmuch : mAll (d + 1) l p = ([], false) := by
            obtain ⟨rest, hrest⟩ := flat_prefix p.kind p.rel cc (B := (mAll d l (hdP p.r)).1) ha (j + 1)
            have h1 := (putsG_len (f := ordM) rest (qaS ordM [] (qcP p.kind p.rel cc ((mAll d l (hdP p.l)).1.take i) (mAll d l (hdP p.r)).1 ++ ((mAll d l (hdP p.r)).1.take (j + 1)).filterMap (qb9 p.kind p.rel cc a)))).1
            rw [← putsG_app, ← hrest] at h1
            rw [hlst] at h1
            simp only [qau] at c10
            rw [hg, capM, if_neg (by omega)]
          refine qd (qb (zX E (zX E (zK (qo (qS (qm (qm (qS (qS (qm (qm (qS (qm ?_))))))))))))))
          change retQ _ _ _ _ _ _ _
          first
            | (have hm : mAll (d + 1) l p = ([], false) := by
                 first
                   | exact hmuch
                   | exact hbad (by rw [show (mAll d l (hdP p.l)).2 = false by assumption]; rfl)
                   | exact hbad (by rw [show (mAll d l (hdP p.r)).2 = false by assumption, Bool.and_false]; rfl)
                   | exact hbad (by rw [show (p.kind != 5 || (mAll d l (hdP p.c)).2) = false by assumption, Bool.and_false])
               rw [hm]
               refine retS (qaU (t := 4) (l := 6) 55 4 false E E) (retO (O' := [(6, _)]) (.inl E) (qh E (qh E qi)) (SubO.cons E SubO.nil) ?_ ?_ (noL' (noL hL) _) ?_)
               · rfl
               · rfl
               exact ⟨rfl, rfl⟩)
            | (rw [hg]
               refine retS (qaC 0 6 (noL hL _) (noL hL _)) (retO (O' := [(6, _)]) (by first | exact .inl E | exact .inr E) (qh E (qh E qi)) (SubO.cons E SubO.nil) ?_ ?_ (noL' (noL hL) _) ?_)
               · rfl
               · rfl
               refine ⟨?_, rfl⟩
               first
                 | rfl
                 | (show AV.tup [.row 6, _] = _
                    congr 2
                    refine congrArg (fun x => [x]) (qb5 ?_)
                    rw [hlr, Bool.eq_iff_iff, decide_eq_true_eq, decide_eq_true_eq]
                    omega))
        try simp only[↓cqA,cqB]at c10
        refine qr (qP (qa (qb (zX E (zA E (qJ E E E (by omega)) (zX E (qc ?_))))))); refine qa ?_; refine ⟨?_, ?_, ?_⟩
        · omega
        · simp only [qau] at c10
          exact ⟨by omega, by rw [hlst]; omega⟩
        exact zR hL (zC E (zC E (zC E (zC E (zC E (zC E (zC E SubT.nil))))))) (SubO.cons (qR E (by rw [hlst])) (SubO.cons (qR rfl (by rfl)) (SubO.cons (qR E (by rfl)) (SubO.cons (qR E (by rfl)) SubO.nil))))
      try simp only[↓cqA,cqB]at c9
      have hj : qb9 p.kind p.rel cc a b = none := by
        cases h : qb9 p.kind p.rel cc a b with
        | none => rfl
        | some m => rw [h] at c9; cases c9
      rw [hj] at hft2
      have hlst : qaS ordM [] (qcP p.kind p.rel cc ((mAll d l (hdP p.l)).1.take i) (mAll d l (hdP p.r)).1 ++ ((mAll d l (hdP p.r)).1.take (j + 1)).filterMap (qb9 p.kind p.rel cc a)) = qaS ordM [] (qcP p.kind p.rel cc ((mAll d l (hdP p.l)).1.take i) (mAll d l (hdP p.r)).1 ++ ((mAll d l (hdP p.r)).1.take j).filterMap (qb9 p.kind p.rel cc a)) := by
        rw [hft2, Option.toList_none, List.append_nil]
      refine qr (qa (qd (qb (zX E (zA E (qcJ E qz E E) (zA E (qj E E E E) (qc ?_))))))); refine qa (qq E (fun c10 => ?_) (fun c10 => ?_))
      · try simp only[↓cqA,cqB]at c10
        have hmuch : mAll (d + 1) l p = ([], false) := by
          obtain ⟨rest, hrest⟩ := flat_prefix p.kind p.rel cc (B := (mAll d l (hdP p.r)).1) ha (j + 1)
          have h1 := (putsG_len (f := ordM) rest (qaS ordM [] (qcP p.kind p.rel cc ((mAll d l (hdP p.l)).1.take i) (mAll d l (hdP p.r)).1 ++ ((mAll d l (hdP p.r)).1.take (j + 1)).filterMap (qb9 p.kind p.rel cc a)))).1
          rw [← putsG_app, ← hrest] at h1
          rw [hlst] at h1
          simp only [qau] at c10
          rw [hg, capM, if_neg (by omega)]
        refine qd (qb (zX E (zX E (zK (qo (qS (qm (qm (qS (qS (qm (qm (qS (qm ?_))))))))))))))
        change retQ _ _ _ _ _ _ _
        first
          | (have hm : mAll (d + 1) l p = ([], false) := by
               first
                 | exact hmuch
                 | exact hbad (by rw [show (mAll d l (hdP p.l)).2 = false by assumption]; rfl)
                 | exact hbad (by rw [show (mAll d l (hdP p.r)).2 = false by assumption, Bool.and_false]; rfl)
                 | exact hbad (by rw [show (p.kind != 5 || (mAll d l (hdP p.c)).2) = false by assumption, Bool.and_false])
             rw [hm]
             refine retS (qaU (t := 4) (l := 6) 55 4 false E E) (retO (O' := [(6, _)]) (.inl E) (qh E (qh E qi)) (SubO.cons E SubO.nil) ?_ ?_ (noL' (noL hL) _) ?_)
             · rfl
             · rfl
             exact ⟨rfl, rfl⟩)
          | (rw [hg]
             refine retS (qaC 0 6 (noL hL _) (noL hL _)) (retO (O' := [(6, _)]) (by first | exact .inl E | exact .inr E) (qh E (qh E qi)) (SubO.cons E SubO.nil) ?_ ?_ (noL' (noL hL) _) ?_)
             · rfl
             · rfl
             refine ⟨?_, rfl⟩
             first
               | rfl
               | (show AV.tup [.row 6, _] = _
                  congr 2
                  refine congrArg (fun x => [x]) (qb5 ?_)
                  rw [hlr, Bool.eq_iff_iff, decide_eq_true_eq, decide_eq_true_eq]
                  omega))
      try simp only[↓cqA,cqB]at c10
      refine qr (qP (qa (qb (zX E (zA E (qJ E E E (by omega)) (zX E (qc ?_))))))); refine qa ?_; refine ⟨?_, ?_, ?_⟩
      · omega
      · simp only [qau] at c10
        exact ⟨by omega, by rw [hlst]; omega⟩
      exact zR hL (zC E (zC E (zC E (zC E (zC E (zC E (zC E SubT.nil))))))) (SubO.cons (qR E (by rw [hlst])) (SubO.cons (qR rfl (by rfl)) (SubO.cons (qR E (by rfl)) (SubO.cons (qR E (by rfl)) SubO.nil))))
    try simp only[↓cqA,cqB]at c8
    refine qQ (qn (qn (qX ?_))); refine qP (qa (qb (zX E (zA E (qJ E E E (by omega)) (zX E (zK ?_)))))); refine ⟨?_, ?_, ?_⟩
    · omega
    · have h := hpj.2
      rw [List.take_of_length_le (l := (mAll d l (hdP p.r)).1) (by omega), ← hft] at h
      exact ⟨by omega, h⟩
    exact zR hL (zC E (zC E (zC E (zC E (zC E (zC E SubT.nil)))))) (SubO.cons (qR E (by rw [hft, List.take_of_length_le (l := (mAll d l (hdP p.r)).1) (by omega)])) (SubO.cons (qR E (by rfl)) (SubO.cons (qR E (by rfl)) (SubO.cons (qR E (by rfl)) SubO.nil))))
  try simp only[↓cqA,cqB]at c7
  have hall : (mAll d l (hdP p.l)).1.take i = (mAll d l (hdP p.l)).1 := List.take_of_length_le (by omega)
  have hpi2 := hpi.2
  rw [hall] at hpi2
  rw [capM, if_pos hpi2] at hg
  rw [hall]
  refine qQ (qn (qn (qX ?_))); refine qa (qd (qb (zX E (zX E (zX E (zK ?_)))))); refine qo ?_
  change retQ _ _ _ _ _ _ _
  first
    | (have hm : mAll (d + 1) l p = ([], false) := by
         first
           | exact hmuch
           | exact hbad (by rw [show (mAll d l (hdP p.l)).2 = false by assumption]; rfl)
           | exact hbad (by rw [show (mAll d l (hdP p.r)).2 = false by assumption, Bool.and_false]; rfl)
           | exact hbad (by rw [show (p.kind != 5 || (mAll d l (hdP p.c)).2) = false by assumption, Bool.and_false])
       rw [hm]
       refine retS (qaU (t := 4) (l := 6) 55 4 false E E) (retO (O' := [(6, _)]) (.inl E) (qh E (qh E qi)) (SubO.cons E SubO.nil) ?_ ?_ (noL' (noL hL) _) ?_)
       · rfl
       · rfl
       exact ⟨rfl, rfl⟩)
    | (rw [hg]
       refine retS (qaC 0 6 (noL hL _) (noL hL _)) (retO (O' := [(6, _)]) (by first | exact .inl E | exact .inr E) (qh E (qh E qi)) (SubO.cons E SubO.nil) ?_ ?_ (noL' (noL hL) _) ?_)
       · rfl
       · rfl
       refine ⟨?_, rfl⟩
       first
         | rfl
         | (show AV.tup [.row 6, _] = _
            congr 2
            refine congrArg (fun x => [x]) (qb5 ?_)
            rw [hlr, Bool.eq_iff_iff, decide_eq_true_eq, decide_eq_true_eq]
            omega))
theorem rAll_ok {l : List Kp} (hl : listB l = true) (hw : ∀ k ∈ l, k.wf) : ∀ d : Nat, d ≤ 10 → AllC l d
  | 0, _ => fun p _ h => by rw [patB] at h; cases h
  | d + 1, hd => fun p hp hb => by
    by_cases hk : p.kind = 1
    · exact rAll_term hl hw d p hp hb hk
    · exact rAll_join hl hw d (by omega) p hp hb hk (rAll_ok hl hw d (by omega))
end Go.Proofs.YtpgceiijoedppaaGreat
