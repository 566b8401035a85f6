/- Part 9 of the proof: Fi, Fj, Fl, Fm, Fo, Fp, Fq, Fr. -/
import Derived.Test.YtpgceiijoedppaaGreatB8
set_option linter.unusedVariables false
set_option linter.unusedSimpArgs false
set_option maxRecDepth 8000
namespace Go.Proofs.YtpgceiijoedppaaGreat
open Go
theorem qbr {α : Type} (f : α → Int) : ∀ (n : Int) (l : List α), (∀ t, t ∈ l → 0 ≤ f t) → n ≤ wgtL f n l
  | n, [], _ => by simp [wgtL]
  | n, a :: l, h => by
    simp only [wgtL]
    split
    · have := qbr f (n + f a) l (fun t ht => h t (by simp [ht]))
      have := h a (by simp); omega
    · omega
def wT (t : Tm) : Int := wgt 30 t
def wTs (l : List Tm) : Int := wgtL wT l.length l
theorem qbL (t : Tm) (h : t.wf) : 0 ≤ wT t ∧ wT t ≤ 4362862138900000 := by
 have h1 := wgt_ge 30 t
 have h2 := wgt_le 30 t h
 simp only [wT]; omega
theorem qbU (u : Tm) (h : u.wf) : PF 93 [tmA false u, iv 30] (iv (wT u)) := TermWeight_ok 30 (by omega) _ rfl u h
theorem Terms_ok (l : List Tm) (hl : qba l) (hw : Tm.wfs l) : PF 48 [.dat false 4 (tmDs l)] (iv (wTs l)) := by
 have hlen := qaJ l
 have hF : ∀ u, u ∈ l → 0 ≤ wT u ∧ wT u ≤ 4362862138900000 := fun u hu => qbL u (Tm.wfs_mem hw hu)
 simp only [qba] at hl
 refine qF Tryz.func48 E Tryz.ntmps48 zL fun c hL hQ hDD => (qd (qb (zX E (zK (qd (qb ?_)))))); refine zX E (zA E (qu E qI E) ?_)
 refine zX E (zK (qd (qd (qb (zX E (qc ?_)))))); refine qa (qv (q6 (l.length) (fun k => k ≤ l.length ∧ ∀ j, j < k → wgtL wT l.length (l.take j) < 1048576) (fun k => ⟨[(0, .dat false 4 (tmDs l)), (3, iv (wgtL wT l.length (l.take k))), (4, iv (k : Int))], []⟩) (⟨by omega, fun j hj => absurd hj (by omega)⟩) ?_ (fun k hk hp => ?_)))
 ·exact zR hL (zC E (SubT.cons (qan E (by exact qL (by simp only [List.take_zero, wgtL]; omega))) (zC E SubT.nil))) SubO.nil
 have hwk := qdH wT 4362862138900000 (by omega) l.length (l.take k) (fun u hu => (hF u (List.mem_of_mem_take hu)).2) (by omega)
 have hw0 := qbr wT l.length (l.take k) (fun u hu => (hF u (List.mem_of_mem_take hu)).1)
 refine qd (qd (qb (zX E (zX E (zA E (qu E qI E) (zA E (qj E E E E) (zX E ?_))))))); refine qt 11 E (fun g11 => ?_) (fun g11 => ?_)
 ·try simp only[↓cqA,cqB]at g11
  obtain ⟨u, hu⟩ := qH (l := l) (k := k) (by omega)
  have hum := List.mem_of_getElem? hu
  have huw := hF u hum
  have hut := Tm.wfs_mem hw hum
  refine zZ E (qk (.inl E) E) (zZ E (qj E E E E) (zA E (qg E E E) (zK (qq E (fun c0 => ?_) (fun c0 => ?_)))))
  ·try simp only[↓cqA,cqB]at c0
   refine qr (qa (qd (qv (qb (zX E (zX E (zX E ?_))))))); refine zA E (qp E qI E E (by omega) (qbv hu)) (zA E (qC E qw E E) ?_)
   refine qE (avs := [_, _]) true E E E zD qaI E E (qbU u hut) E E (zA E (qJ E E E (by omega)) (zX E (qc (qP (qa (qb (zX E ?_))))))); refine zA E (qJ E E E (by omega)) (zX E (qc ?_))
   have hb := qc7 wT l.length (l.take k) u (fun j hj => by
    by_cases hjk : j < k
    ·have := hp.2 j hjk; rwa [List.take_take, Nat.min_eq_left (by omega)]
    ·rw [List.take_of_length_le (by simp; omega)]; omega)
   rw [← qac hu] at hb
   refine qa ?_; refine ⟨?_, ?_, ?_⟩
   ·omega
   ·refine ⟨by omega, fun j hj => ?_⟩
    by_cases hjk : j < k
    ·exact hp.2 j hjk
    ·rw [show j = k by omega]; omega
   exact zR hL (zC E (SubT.cons (qan E (by exact qL (by rw [hb]; try omega))) (zC E SubT.nil))) SubO.nil
  try simp only[↓cqA,cqB]at c0
  have hfin : wgtL wT l.length (l.take k) = wgtL wT l.length l := ((qcO wT _ _ k hp.1 hp.2).trans (qc6 _ _ _ (by omega))).symm
  refine qQ (qn (qn (qX ?_))); refine qa (qd (qb (zX E (zX E (zK (qo (zI hL (qh E qi) ?_ ?_)))))))
  ·rfl
  exact ⟨qa2 hfin, rfl⟩
 try simp only[↓cqA,cqB]at g11
 have hfin : wgtL wT l.length (l.take k) = wgtL wT l.length l := by rw [List.take_of_length_le (by omega)]
 refine zY E (zY E (zA E (qg E E E) (zK (qab E (qQ (qn (qn (qX ?_)))))))); refine qa (qd (qb (zX E (zX E (zK (qo (zI hL (qh E qi) ?_ ?_)))))))
 ·rfl
 exact ⟨qa2 hfin, rfl⟩
theorem wTs_range (l : List Tm) (hl : qba l) (hw : Tm.wfs l) : 0 ≤ wTs l ∧ wTs l ≤ 4600000000000000 := by
 have hF : ∀ u, u ∈ l → 0 ≤ wT u ∧ wT u ≤ 4362862138900000 := fun u hu => qbL u (Tm.wfs_mem hw hu)
 have h1 := qdH wT 4362862138900000 (by omega) l.length l (fun u hu => (hF u hu).2) (by simp only [qba] at hl; omega)
 have h2 := qbr wT l.length l (fun u hu => (hF u hu).1)
 simp only [wTs]; omega
def wG (g : Gd) : Int := wT g.l + wT g.r
def wGs (l : List Gd) : Int := wgtL wG l.length l
theorem wG_range (g : Gd) (h : g.wf) : 0 ≤ wG g ∧ wG g ≤ 8725724277800000 := by
 have h1 := qbL g.l h.2.1
 have h2 := qbL g.r h.2.2
 simp only [wG]; omega
theorem GuardsWeight_ok (l : List Gd) (hl : qba l) (hw : ∀ g ∈ l, g.wf) : PF 94 [.dat false 9 (gdDs l)] (iv (wGs l)) := by
 have hlen := gdDs_length l
 have hF : ∀ u, u ∈ l → 0 ≤ wG u ∧ wG u ≤ 8725724277800000 := fun u hu => wG_range u (hw u hu)
 simp only [qba] at hl
 refine qF Tryz.func94 E Tryz.ntmps94 zL fun c hL hQ hDD => (qd (qb (zX E (zK (qd (qb ?_)))))); refine zX E (zA E (qu E qa8 E) ?_)
 refine zX E (zK (qd (qd (qb (zX E (qc ?_)))))); refine qa (qv (q6 (l.length) (fun k => k ≤ l.length ∧ ∀ j, j < k → wgtL wG l.length (l.take j) < 1048576) (fun k => ⟨[(0, .dat false 9 (gdDs l)), (3, iv (wgtL wG l.length (l.take k))), (4, iv (k : Int))], []⟩) (⟨by omega, fun j hj => absurd hj (by omega)⟩) ?_ (fun k hk hp => ?_)))
 ·exact zR hL (zC E (SubT.cons (qan E (by exact qL (by simp only [List.take_zero, wgtL]; omega))) (zC E SubT.nil))) SubO.nil
 have hwk := qdH wG 8725724277800000 (by omega) l.length (l.take k) (fun u hu => (hF u (List.mem_of_mem_take hu)).2) (by omega)
 have hw0 := qbr wG l.length (l.take k) (fun u hu => (hF u (List.mem_of_mem_take hu)).1)
 refine qd (qd (qb (zX E (zX E (zA E (qu E qa8 E) (zA E (qj E E E E) (zX E ?_))))))); refine qt 11 E (fun g11 => ?_) (fun g11 => ?_)
 ·try simp only[↓cqA,cqB]at g11
  obtain ⟨u, hu⟩ := qH (l := l) (k := k) (by omega)
  have hum := List.mem_of_getElem? hu
  have huw := hF u hum
  have hul := (hw u hum).2.1
  have hur := (hw u hum).2.2
  have hwg : wG u = wT u.l + wT u.r := rfl
  have hul2 := qbL u.l hul
  have hur2 := qbL u.r hur
  refine zZ E (qk (.inl E) E) (zZ E (qj E E E E) (zA E (qg E E E) (zK (qq E (fun c0 => ?_) (fun c0 => ?_)))))
  ·try simp only[↓cqA,cqB]at c0
   refine qr (qa (qd (qv (qZ 14 mixed E E E E (qf E zD (.run E (qk (.inl E) E)) (qf E zD (.run E (qk (.inl E) E)) (qf E zD (.run E (qk (.inl E) E)) ?_))))))); refine qf E zD (.run E (qp E qa8 E E (by omega) (gdDs_get hu))) (qf E zD (.run E (qA E qb7 E)) (qf E zD (.run E (stp_load_elpn E qw E E E)) (qf E zD (.run E (qY (avs := [_, _]) true E qaI E E (qbU u.l hul) (fun _ => rfl) E)) (qf E zD (.run E (qJ E E E (by omega))) (qf E zD (.run E (qk (.inl E) E)) (qf E zD (.run E (qk (.inl E) E)) (qf E zD (.run E (qp E qa8 E E (by omega) (gdDs_get hu))) ?_)))))))
   refine qf E zD (.run E (qA E qcA E)) (qf E zD (.run E (qC E qw E E)) (qf E zD (.run E (qY (avs := [_, _]) true E qaI E E (qbU u.r hur) (fun _ => rfl) E)) (qak ⟨rfl, rfl, ?_⟩))); refine zA E (qJ E E E (by omega)) (zX E (qc (qP (qa (qb (zX E (zA E (qJ E E E (by omega)) (zX E (qc ?_)))))))))
   have hb := qc7 wG l.length (l.take k) u (fun j hj => by
    by_cases hjk : j < k
    ·have := hp.2 j hjk; rwa [List.take_take, Nat.min_eq_left (by omega)]
    ·rw [List.take_of_length_le (by simp; omega)]; omega)
   rw [← qac hu] at hb
   refine qa ?_; refine ⟨?_, ?_, ?_⟩
   ·omega
   ·refine ⟨by omega, fun j hj => ?_⟩
    by_cases hjk : j < k
    ·exact hp.2 j hjk
    ·rw [show j = k by omega]; omega
   exact zR hL (zC E (SubT.cons (qan E (by exact qL (by rw [hb]; try omega))) (zC E SubT.nil))) SubO.nil
  try simp only[↓cqA,cqB]at c0
  have hfin : wgtL wG l.length (l.take k) = wgtL wG l.length l := ((qcO wG _ _ k hp.1 hp.2).trans (qc6 _ _ _ (by omega))).symm
  refine qQ (qn (qn (qX ?_))); refine qa (qd (qb (zX E (zX E (zK (qo (zI hL (qh E qi) ?_ ?_)))))))
  ·rfl
  exact ⟨qa2 hfin, rfl⟩
 try simp only[↓cqA,cqB]at g11
 have hfin : wgtL wG l.length (l.take k) = wgtL wG l.length l := by rw [List.take_of_length_le (by omega)]
 refine zY E (zY E (zA E (qg E E E) (zK (qab E (qQ (qn (qn (qX ?_)))))))); refine qa (qd (qb (zX E (zX E (zK (qo (zI hL (qh E qi) ?_ ?_)))))))
 ·rfl
 exact ⟨qa2 hfin, rfl⟩
theorem wGs_range (l : List Gd) (hl : qba l) (hw : ∀ g ∈ l, g.wf) : 0 ≤ wGs l ∧ wGs l ≤ 9000000000000000 := by
 have hF : ∀ u, u ∈ l → 0 ≤ wG u ∧ wG u ≤ 8725724277800000 := fun u hu => wG_range u (hw u hu)
 have h1 := qdH wG 8725724277800000 (by omega) l.length l (fun u hu => (hF u hu).2) (by simp only [qba] at hl; omega)
 have h2 := qbr wG l.length l (fun u hu => (hF u hu).1)
 simp only [wGs]; omega
def wB (b : Bd) : Int := b.name.size + wT b.t
def wBs (l : List Bd) : Int := wgtL wB l.length l
theorem wB_range (b : Bd) (h : b.wf) : 0 ≤ wB b ∧ wB b ≤ 4600000000000000 := by
 have h1 := qbL b.t h.2
 have h2 := h.1
 simp only [wB]; omega
theorem wBs_range (l : List Bd) (hl : qba l) (hw : ∀ g ∈ l, g.wf) : 0 ≤ wBs l ∧ wBs l ≤ 4800000000000000 := by
 have hF : ∀ u, u ∈ l → 0 ≤ wB u ∧ wB u ≤ 4600000000000000 := fun u hu => wB_range u (hw u hu)
 have h1 := qdH wB 4600000000000000 (by omega) l.length l (fun u hu => (hF u hu).2) (by simp only [qba] at hl; omega)
 have h2 := qbr wB l.length l (fun u hu => (hF u hu).1)
 simp only [wBs]; omega
theorem BindsWeight_ok (l : List Bd) (hl : qba l) (hw : ∀ g ∈ l, g.wf) : PF 134 [.dat false 5 (bdDs l)] (iv (wBs l)) := by
 have hlen := qaR l
 have hF : ∀ u, u ∈ l → 0 ≤ wB u ∧ wB u ≤ 4600000000000000 := fun u hu => wB_range u (hw u hu)
 simp only [qba] at hl
 refine qF Tryz.func134 E Tryz.ntmps134 zL fun c hL hQ hDD => (qd (qb (zX E (zK (qd (qb ?_)))))); refine zX E (zA E (qu E qO E) ?_)
 refine zX E (zK (qd (qd (qb (zX E (qc ?_)))))); refine qa (qv (q6 (l.length) (fun k => k ≤ l.length ∧ ∀ j, j < k → wgtL wB l.length (l.take j) < 1048576) (fun k => ⟨[(0, .dat false 5 (bdDs l)), (3, iv (wgtL wB l.length (l.take k))), (4, iv (k : Int))], []⟩) (⟨by omega, fun j hj => absurd hj (by omega)⟩) ?_ (fun k hk hp => ?_)))
 ·exact zR hL (zC E (SubT.cons (qan E (by exact qL (by simp only [List.take_zero, wgtL]; omega))) (zC E SubT.nil))) SubO.nil
 have hwk := qdH wB 4600000000000000 (by omega) l.length (l.take k) (fun u hu => (hF u (List.mem_of_mem_take hu)).2) (by omega)
 have hw0 := qbr wB l.length (l.take k) (fun u hu => (hF u (List.mem_of_mem_take hu)).1)
 refine qd (qd (qb (zX E (zX E (zA E (qu E qO E) (zA E (qj E E E E) (zX E ?_))))))); refine qt 11 E (fun g11 => ?_) (fun g11 => ?_)
 ·try simp only[↓cqA,cqB]at g11
  obtain ⟨u, hu⟩ := qH (l := l) (k := k) (by omega)
  have hum := List.mem_of_getElem? hu
  have huw := hF u hum
  have hul := (hw u hum).1
  have hur := (hw u hum).2
  have hwg : wB u = u.name.size + wT u.t := rfl
  have hur2 := qbL u.t hur
  refine zZ E (qk (.inl E) E) (zZ E (qj E E E E) (zA E (qg E E E) (zK (qq E (fun c0 => ?_) (fun c0 => ?_)))))
  ·try simp only[↓cqA,cqB]at c0
   refine qr (qa (qd (qv (qZ 14 mixed E E E E (qf E zD (.run E (qk (.inl E) E)) (qf E zD (.run E (qk (.inl E) E)) (qf E zD (.run E (qk (.inl E) E)) ?_))))))); refine qf E zD (.run E (qp E qO E E (by omega) (qbe hu))) (qf E zD (.run E (qA E qaG E)) (qf E zD (.run E (qN E qaf E)) (qf E zD (.run E (qc9 E qbG E)) (qf E zD (.run E (qJ E E E (by omega))) (qf E zD (.run E (qk (.inl E) E)) (qf E zD (.run E (qk (.inl E) E)) (qf E zD (.run E (qp E qO E E (by omega) (qbe hu))) (qf E zD (.run E (qA E qaZ E)) ?_))))))))
   refine qf E zD (.run E (qC E qw E E)) (qf E zD (.run E (qY (avs := [_, _]) true E qaI E E (qbU u.t hur) (fun _ => rfl) E)) (qak ⟨rfl, rfl, ?_⟩)); refine zA E (qJ E E E (by omega)) (zX E (qc (qP (qa (qb (zX E (zA E (qJ E E E (by omega)) (zX E (qc ?_)))))))))
   have hb := qc7 wB l.length (l.take k) u (fun j hj => by
    by_cases hjk : j < k
    ·have := hp.2 j hjk; rwa [List.take_take, Nat.min_eq_left (by omega)]
    ·rw [List.take_of_length_le (by simp; omega)]; omega)
   rw [← qac hu] at hb
   refine qa ?_; refine ⟨?_, ?_, ?_⟩
   ·omega
   ·refine ⟨by omega, fun j hj => ?_⟩
    by_cases hjk : j < k
    ·exact hp.2 j hjk
    ·rw [show j = k by omega]; omega
   exact zR hL (zC E (SubT.cons (qan E (by exact qL (by rw [hb]; try omega))) (zC E SubT.nil))) SubO.nil
  try simp only[↓cqA,cqB]at c0
  have hfin : wgtL wB l.length (l.take k) = wgtL wB l.length l := ((qcO wB _ _ k hp.1 hp.2).trans (qc6 _ _ _ (by omega))).symm
  refine qQ (qn (qn (qX ?_))); refine qa (qd (qb (zX E (zX E (zK (qo (zI hL (qh E qi) ?_ ?_)))))))
  ·rfl
  exact ⟨qa2 hfin, rfl⟩
 try simp only[↓cqA,cqB]at g11
 have hfin : wgtL wB l.length (l.take k) = wgtL wB l.length l := by rw [List.take_of_length_le (by omega)]
 refine zY E (zY E (zA E (qg E E E) (zK (qab E (qQ (qn (qn (qX ?_)))))))); refine qa (qd (qb (zX E (zX E (zK (qo (zI hL (qh E qi) ?_ ?_)))))))
 ·rfl
 exact ⟨qa2 hfin, rfl⟩
def knownC (kind : Int) (a b : Tm) : Bool :=
 if kind = 1 ∨ kind = 2 then (if a.kind ≠ 2 ∨ b.kind ≠ 2 then false else decide (cmpT 5 a b < 0 ∨ (kind = 2 ∧ cmpT 5 a b = 0)))
 else (decide (cmpT 5 a b = 0) == decide (kind = 3))
def guardE (kind : Int) (a b : Tm) : Int :=
 if kind < 1 ∨ 4 < kind ∨ mayT a = false ∨ mayT b = false ∨ groundB a = false ∨ groundB b = false then 1
 else if kind ≤ 2 ∧ (a.kind ≠ 2 ∨ b.kind ≠ 2) then 3 else 0
def guardC (kind : Int) (a b : Tm) : Bool := guardE kind a b == 0 && knownC kind a b
theorem cmpI_zero (a b : Int) : cmpI a b = 0 ↔ a = b := by
 simp only [cmpI]; split
 ·constructor
  ·intro h; cases h
  ·intro h; omega
 ·split
  ·constructor
   ·intro h; cases h
   ·intro h; omega
  ·constructor
   ·intro _; omega
   ·intro _; rfl
theorem cmpS_zero (a b : ByteArray) : cmpS a b = 0 ↔ a = b := by
 rw [cmpS_eq]
 split
 ·rename_i h
  constructor
  ·intro h; cases h
  ·rintro rfl
   have irr : ∀ l : List UInt8, Op.bytesLess l l = false := fun l => by
    induction l with
    | nil => rfl
    | cons x l ih => simp [Op.bytesLess, ih]
   rw [ltS, irr] at h; cases h
 ·split
  ·rename_i h; simp [h]
  ·rename_i h; simp [h]
theorem cmpL_zero (f : Tm → Tm → Int) (g : Tm → Tm → Bool) : ∀ (l m : List Tm), (∀ u v, u ∈ l → (f u v = 0 ↔ g u v = true)) → (cmpL f l m = 0 ↔ eqL g l m = true)
  | [], [], _ => by simp [cmpL, eqL]
  | [], _ :: _, _ => by simp [cmpL, eqL]
  | _ :: _, [], _ => by simp [cmpL, eqL]
  | a :: l, b :: m, h => by
    have h1 := h a b (by simp)
    have ih := cmpL_zero f g l m (fun u v hu => h u v (by simp [hu]))
    simp only [cmpL, eqL, Bool.and_eq_true, ← h1]
    split
    · rename_i h0; simp [h0, ih]
    · rename_i h0; simp [h0]
theorem orL_zero (a b c d : Int) : orL [a, b, c, d] = 0 ↔ a = 0 ∧ b = 0 ∧ c = 0 ∧ d = 0 := by
 simp only [orL]; split
 ·split
  ·split
   ·split
    ·simp_all
    ·simp_all
   ·simp_all
  ·simp_all
 ·simp_all
theorem cmpT_zero : ∀ (d : Nat) (a b : Tm), dle d a → (cmpT d a b = 0 ↔ eqT d a b = true)
  | 0, a, b, h => h.elim
  | d + 1, a, b, h => by
    have hL := cmpL_zero (cmpT d) (eqT d) a.args b.args (fun u v hu => cmpT_zero d u v (h u hu))
    have hz := orL_zero (cmpI a.kind b.kind) (cmpI a.n b.n) (cmpI a.args.length b.args.length) (cmpS a.name b.name)
    simp only [cmpT, eqT, Bool.and_eq_true, decide_eq_true_eq, Array.toList_inj, data_inj]
    split
    · rename_i h0
      obtain ⟨h1, h2, h3, h4⟩ := hz.1 h0
      rw [cmpI_zero] at h1 h2
      rw [cmpS_zero] at h4
      rw [hL]
      exact ⟨fun h => ⟨⟨⟨h1, h4⟩, h2⟩, h⟩, fun h => h.2⟩
    · rename_i h0
      constructor
      · intro h; exact absurd h h0
      · rintro ⟨⟨⟨h1, h4⟩, h2⟩, h3⟩
        exfalso
        apply h0
        rw [hz, cmpI_zero, cmpI_zero, cmpI_zero, cmpS_zero]
        refine ⟨h1, h2, ?_, h4⟩
        by_cases hl : a.args.length = b.args.length
        · rw [hl]
        · rw [eqL_len _ hl] at h3; cases h3
abbrev spA (f : Ft) : AV := .agg (lift false (spD f))
def spanB (f : Ft) : Bool := decide (-1073741824 ≤ f.fr ∧ f.fr ≤ f.to ∧ f.to ≤ 1073741824)
theorem rSpan_ok (f : Ft) : PF 99 [spA f] (bv (spanB f)) := by
 refine qF Tryz.func99 E Tryz.ntmps99 zL fun c hL hQ hDD => (qd (qb (qy E E zD (qaa 1 E E E) E (zX E (zK (qd ?_)))))); refine qb (zA E (qe E qah E) (zA E (ql E qU E E E E E) (zA E (qj E E E E) (zX E (qt 6 E (fun g6 => ?_) (fun g6 => ?_))))))
 ·try simp only[↓cqA,cqB]at g6
  refine zZ E (qe E qah E) (zZ E (ql E qU E E E E E) (zZ E (qe E qat E) (zZ E (ql E qU E E E E E) (zZ E (qj E E E E) (zA E (qg E E E) (zX E (qt 13 E (fun g13 => ?_) (fun g13 => ?_))))))))
  ·try simp only[↓cqA,cqB]at g13
   refine zZ E (qe E qat E) (zZ E (ql E qU E E E E E) (zZ E (qj E E E E) (zA E (qg E E E) (zX E (zK (qo (zI hL (qh E qi) ?_ ?_)))))))
   ·rfl
   refine ⟨qT ?_, rfl⟩
   rw [Bool.eq_iff_iff]; simp [spanB]; try omega
  try simp only[↓cqA,cqB]at g13
  refine zY E (zY E (zY E (zA E (qg E E E) (zX E (zK (qo (zI hL (qh E qi) ?_ ?_)))))))
  ·rfl
  refine ⟨qT ?_, rfl⟩
  rw [Bool.eq_iff_iff]; simp [spanB]; try omega
 try simp only[↓cqA,cqB]at g6
 refine zY E (zY E (zY E (zY E (zY E (zA E (qg E E E) ?_)))))
 refine zX E (zY E (zY E (zY E (zA E (qg E E E) (zX E (zK ?_)))))); refine qo (zI hL (qh E qi) ?_ ?_)
 ·rfl
 refine ⟨qT ?_, rfl⟩
 rw [Bool.eq_iff_iff]; simp [spanB]; try omega
def factB (f : Ft) : Bool := decide (f.t.kind = 3) && mayT f.t && groundB f.t && spanB f
theorem rFact_ok (f : Ft) (hf : f.wf) : PF 57 [ftA f] (bv (factB f)) := by
 have ht := hf.1
 refine qF Tryz.func57 E Tryz.ntmps57 zL fun c hL hQ hDD => (qd (qb (qy E E zD (qaa 1 E E E) E (zX E (zK (qd ?_)))))); refine qb (zA E (qe E qbP E) (zA E (qe E qar E) (zA E (ql E qU E E E E E) (zA E (qj E E E E) (zX E (qt 7 E (fun g7 => ?_) (fun g7 => ?_)))))))
 ·try simp only[↓cqA,cqB]at g7
  refine zZ E (qe E qbP E) (zZ E (ql E qw E E E E E) (zZ E (qY (avs := [_]) true E qbC E E (rTerm_ok f.t ht) (fun _ => rfl) E) (zA E (qg E E E) (zX E (qt 12 E (fun g12 => ?_) (fun g12 => ?_))))))
  ·try simp only[↓cqA,cqB]at g12
   refine zZ E (qe E qbP E) (zZ E (ql E qw E E E E E) (zZ E (qY (avs := [_]) true E qcY E E (rGround_ok f.t ht (by assumption)) (fun _ => rfl) E) (zA E (qg E E E) (zX E (qt 17 E (fun g17 => ?_) (fun g17 => ?_))))))
   ·try simp only[↓cqA,cqB]at g17
    refine zZ E (qe E qb4 E) (zZ E (ql E qaO E E E E E) (zZ E (qY (avs := [_]) true E en_almagestref7_Span E E (rSpan_ok f) (fun _ => rfl) E) (zA E (qg E E E) (zX E (zK (qo (zI hL (qh E qi) ?_ ?_)))))))
    ·rfl
    refine ⟨qT ?_, rfl⟩
    simp_all [factB]
   try simp only[↓cqA,cqB]at g17
   refine zY E (zY E (zY E (zA E (qg E E E) (zX E (zK (qo (zI hL (qh E qi) ?_ ?_)))))))
   ·rfl
   refine ⟨qT ?_, rfl⟩
   simp_all [factB]
  try simp only[↓cqA,cqB]at g12
  refine zY E (zY E (zY E (zA E (qg E E E) (zX E (zY E (zY E (zY E (zA E (qg E E E) (zX E (zK (qo (zI hL (qh E qi) ?_ ?_))))))))))))
  ·rfl
  refine ⟨qT ?_, rfl⟩
  simp_all [factB]
 try simp only[↓cqA,cqB]at g7
 refine zY E (zY E (zY E (zA E (qg E E E) (zX E (zY E (zY E (zY E (zA E (qg E E E) (zX E (zY E (zY E (zY E (zA E (qg E E E) (zX E (zK (qo (zI hL (qh E qi) ?_ ?_)))))))))))))))))
 ·rfl
 refine ⟨qT ?_, rfl⟩
 simp_all [factB]
def cmpF (a b : Ft) : Int := orL [cmpT 5 a.t b.t, cmpI a.fr b.fr, cmpI a.to b.to]
theorem factsCompare_ok (a b : Ft) (hd : dle 5 a.t) (ha : a.wf) (hb : b.wf) : PFm 123 [ftA a, ftA b] (iv (cmpF a b)) := by
 refine qF Tryz.func123 E Tryz.ntmps123 zL fun c hL hQ hDD => (qd (qb (qy E E zD (qaa 2 E E E) E (qy E E zD (qaa 3 E E E) E (zX E (zK ?_)))))); refine qd (qZ 18 mixed E E E E (qf E zD (.run E (qe E qbP E)) (qf E zD (.run E (ql E qw E E E E E)) (qf E zD (.run E (qe E qbP E)) (qf E zD (.run E (ql E qw E E E E E)) (qf E zD (.run E (qY (avs := [_, _]) true E en_term_Compare E E (Compare_ok 5 a.t b.t hd ha.1 hb.1) (fun _ => rfl) E)) (qf E zD (.run E (qe E qb4 E)) (qf E zD (.run E (qe E qah E)) (qf E zD (.run E (ql E qU E E E E E)) (qf E zD (.run E (qe E qb4 E)) (qf E zD (.run E (qe E qah E)) (qf E zD (.run E (ql E qU E E E E E)) (qf E zD (.run E (qY (avs := [_, _]) true E qbp E E (cmpInt_ok _ _) (fun _ => rfl) E)) (qf E zD (.run E (qe E qb4 E)) ?_))))))))))))))
 refine qf E zD (.run E (qe E qat E)) (qf E zD (.run E (ql E qU E E E E E)) (qf E zD (.run E (qe E qb4 E)) (qf E zD (.run E (qe E qat E)) (qf E zD (.run E (ql E qU E E E E E)) ?_))))
 refine qak ⟨rfl, rfl, ?_⟩; refine qE (avs := [_, _]) true E E E zD qbp E E (cmpInt_ok _ _) E E (qy E E zD (qam 24 E qaL zv_int E E zD zD zD E E E) E (qdg 24 false 3 E E E E (qE (avs := [_]) true E E E zD en_cmp_Or_int E E (cmpOr_ok [cmpT 5 a.t b.t, cmpI a.fr b.fr, cmpI a.to b.to] (by simp)) rfl rfl (zN rfl rfl rfl (zK (qo (zI hL (qh E qi) ?_ ?_)))))))
 ·rfl
 exact ⟨rfl, rfl⟩
theorem factB_may {f : Ft} (h : factB f = true) : mayT f.t = true := by
 simp only [factB, Bool.and_eq_true] at h; exact h.1.1.2
def turnT (g : ByteArray → Tm) : Nat → Tm → Tm
 | 0, t => t
 | d + 1, t => if t.kind = 1 then g t.name else ⟨t.kind, t.name, t.n, t.args.map (turnT g d)⟩
def tmDsL (l : List Tm) : List (List D) := l.map tmD
theorem Turned_ok (g : ByteArray → Tm) (fb : FuncId) (hen : qW Tryz.prog fb) (hby : ∀ s, PF fb [sv s] (.agg (lift true (tmD (g s))))) : ∀ (d : Nat) (t : Tm), dle d t → t.wf → PF 187 [tmA false t, .fn fb []] (.agg (lift true (tmD (turnT g d t))))
  | 0, t, h, _ => h.elim
  | d + 1, t, h, ht => by
    have hlen := qaJ t.args
    have hal := ht.2.2.2.1
    refine qF Tryz.func187 E Tryz.ntmps187 zL fun c hL hQ hDD => (qd (qb (qy E E zD (qaa 2 E E E) E (qy E E zD (qaD 4 E qaw E) E (zK (qd ?_)))))); refine qd (qb (zA E (qe E qar E) (zA E (ql E qU E E E E E) (zA E (qj E E E E) (zK (qq E (fun c0 => ?_) (fun c0 => ?_)))))))
    · try simp only[↓cqA,cqB]at c0
      refine qd (qb (zX E (zA E (qe E qav E) (zA E (ql E qaf E E E E E) (qE (avs := [_]) true E E E zD hen E E (hby t.name) E E (qae E E E qw E E E E E E E E E (qc ?_))))))); refine qa (qo (qm (zI hL (qbb qw E E E qi) ?_ ?_)))
      · rfl
      exact ⟨by rw [turnT, if_pos c0]; rfl, rfl⟩
    try simp only[↓cqA,cqB]at c0
    refine qr (qa (qd (qb (zX E (zK (qd ?_)))))); refine qd (qb (zA E (qe E q8 E) (zA E (ql E q7 E E E E E) (zA E (qu E qI E) (zX E (zK (qv (q6 (t.args.length) (fun k => k ≤ t.args.length) (fun k => ⟨[(1, .fn fb []), (2, .ptr 2 0), (4, .ptr 4 0), (5, .row 5), (16, .dat false 4 (tmDs t.args)), (17, iv (tmDs t.args).length), (18, iv (k : Int))], [(2, .box (lift false (tmD t))), (4, .box ([Value.int .i64 0, Value.string ⟨#[]⟩, Value.int .i64 0, Value.slice none 0 0].map .imm)), (5, .rowd 34 4 true (tmDsL ((t.args.take k).map (turnT g d))))]⟩) (by omega) ?_ (fun k hk hp => ?_)))))))))
    · exact Sub.trans (qaU (t := 5) (l := 5) 34 4 true E E) (qB (zC E (zC E (zC E (zC E (zC E (zC E (zC E SubT.nil))))))) (SubO.cons (qR E (by rfl)) (SubO.cons (qR E (by rfl)) (SubO.cons (qR E (by rfl)) SubO.nil))) E E (noL' (noL hL) _))
    have hl2 : (tmDsL ((t.args.take k).map (turnT g d))).length ≤ t.args.length := by simp [tmDsL]; omega
    refine qd (qb (zA E (qj E E E E) (zK (qd (qq E (fun c1 => ?_) (fun c1 => ?_))))))
    · try simp only[↓cqA,cqB]at c1
      obtain ⟨u, hu⟩ := qH (l := t.args) (k := k) (by omega)
      have hum := List.mem_of_getElem? hu
      refine qr (qa (qd (qv (qd (qb (zA E (qp E qI E E (by omega) (qbv hu)) (zA E (qC E qw E E) (qy E E zD (qaD 7 E qaw E) E (qae E E E qw E E E E E E E E E (zK (qb (zX E (zA E (qK E qw E E E E) (zX E (qE (avs := [_, _]) true E E E zD en_term_Turned E E (Turned_ok g fb hen hby d u (h u hum) (Tm.wfs_mem ht.2.2.2.2 hum)) E E (qy E E zD (qam 26 E qI qaw E E zD zD zD E E E) E (qc1 E E zD (qa5 27 ta_S_api_Term E E E E E E E E (noL hL _) (by omega) E) E ?_)))))))))))))))))
      refine zX E (qc (qP (qa (qb (zA E (qJ E E E (by omega)) (zX E (qc ?_))))))); refine qa ?_; refine ⟨?_, ?_, ?_⟩
      · omega
      · omega
      exact Sub.trans (qaC 27 5 (noL hL _) (noL hL _)) (qB (zC E (zC E (zC E (zC E (zC E (zC E (zC E SubT.nil))))))) (SubO.cons (qR E (by rfl)) (SubO.cons (qR E (by rfl)) (SubO.cons (qR E (by rw [qac hu, List.map_append, tmDsL, tmDsL, List.map_append]; rfl)) SubO.nil))) E E (noL' (noL hL) _))
    try simp only[↓cqA,cqB]at c1
    refine qQ (qn (qn (qX ?_))); refine qa (qd (qb (zX E (zA E (qe E q8 E) (qae E E E q7 E E E E E E E E E (zK ?_)))))); refine qd (qd3 (qa4 (l := 5) E zD (noL hL _) E E) (qb (zA E (qK E qw E E E E) (qae E E E qw E E E E E E E E E (zK (qo (zI hL (qbb qw E E E qi) ?_ ?_)))))))
    · rfl
    exact ⟨by rw [turnT, if_neg c0, List.take_of_length_le (by omega)]; simp only [tmD, qdh]; rfl, rfl⟩
theorem Own1_raw (s : ByteArray) : PF 203 [sv s] (.agg [iv 1, sv s, iv 0, .imm (.slice none 0 0)]) := by
 refine qF Tryz.func203 E Tryz.ntmps203 zL fun c hL hQ hDD => (qd (qb (qy E E zD (qaD 2 E qaw E) E (zK (qd (qb ?_)))))); refine zX E (zA E (qa1 E qaw E qdI E E) (qae E E E qw E E E E E E E E E (zK (qo (zI hL (qbb qw E E E qi) ?_ ?_)))))
 ·rfl
 exact ⟨rfl, rfl⟩
theorem Own1_ok (s : ByteArray) : PF 203 [sv s] (.agg (lift true (tmD ⟨1, s, 0, []⟩))) :=
 AC_leR (.agg (.cons .refl (.cons .refl (.cons .refl (.cons .nil .nil))))) (Own1_raw s)
def ownT (d : Nat) (t : Tm) : Tm := turnT (fun s => ⟨1, s, 0, []⟩) d t
theorem Own_ok (d : Nat) (t : Tm) (h : dle d t) (ht : t.wf) : PF 141 [tmA false t] (.agg (lift true (tmD (ownT d t)))) := by
 refine qF Tryz.func141 E Tryz.ntmps141 zL fun c hL hQ hDD => (qd (qb (qy E E zD (qaa 1 E E E) E (qy E E zD (qaD 2 E qaw E) E (zK (qd ?_)))))); refine qb (zA E (qK E qw E E E E) (qE (avs := [_, _]) true E E E zD en_term_Turned E E (Turned_ok _ _ en_term_Own_1 Own1_ok d t h ht) E E (qae E E E qw E E E E E E E E E (zK (qo (zI hL (qbb qw E E E qi) ?_ ?_))))))
 ·rfl
 exact ⟨rfl, rfl⟩
theorem own_may : ∀ (d : Nat) (t : Tm) (n : Int), (mayS d t n).1 = true → ownT d t = t
  | 0, t, n, h => by simp [mayS] at h
  | d + 1, t, n, h => by
    have hL : ∀ (l : List Tm) (n : Int), (mayL (mayS d) l n).1 = true → l.map (ownT d) = l := by
      intro l
      induction l with
      | nil => intro n _; rfl
      | cons a l ih =>
        intro n h
        simp only [mayL] at h
        split at h
        · rename_i hb
          rw [List.map_cons, own_may d a n hb, ih _ h]
        · cases h
    obtain ⟨kind, name, m, args⟩ := t
    have e0 : ∀ l : List Tm, l.length = 0 → l = [] := fun l h => List.eq_nil_of_length_eq_zero h
    simp only [mayS] at h
    split at h
    · cases h
    split at h
    · rename_i k1
      simp only [Bool.and_eq_true, decide_eq_true_eq] at h
      simp only [ownT, turnT, if_pos k1]
      rw [k1, h.1.2, e0 _ h.2]
    rename_i k1
    split at h
    · simp only [Bool.and_eq_true, decide_eq_true_eq] at h
      simp only [ownT, turnT, if_neg k1]
      rw [e0 _ h.2]; rfl
    split at h
    · split at h
      · have hA : args.map (turnT (fun s => ⟨1, s, 0, []⟩) d) = args := hL args (n - 1) h
        simp only [ownT, turnT, if_neg k1]
        rw [hA]
      · cases h
    · cases h
theorem bl_irrefl : ∀ l : List UInt8, Op.bytesLess l l = false
 | [] => rfl
 | x :: l => by simp [Op.bytesLess, bl_irrefl l]
theorem bl_trans : ∀ a b c : List UInt8, Op.bytesLess a b = true → Op.bytesLess b c = true → Op.bytesLess a c = true
  | [], _, [], _, h2 => by cases ‹List UInt8› <;> simp [Op.bytesLess] at h2
  | [], _, _ :: _, _, _ => by simp [Op.bytesLess]
  | _ :: _, [], _, h1, _ => by simp [Op.bytesLess] at h1
  | _ :: _, _ :: _, [], _, h2 => by simp [Op.bytesLess] at h2
  | x :: a, y :: b, z :: c, h1, h2 => by
    have ih := bl_trans a b c
    simp only [Op.bytesLess, Bool.or_eq_true, decide_eq_true_eq, Bool.and_eq_true, beq_iff_eq] at h1 h2 ⊢
    rcases h1 with h1 | ⟨rfl, h1⟩
    · rcases h2 with h2 | ⟨rfl, h2⟩
      · exact .inl (UInt8.lt_trans h1 h2)
      · exact .inl h1
    · rcases h2 with h2 | ⟨rfl, h2⟩
      · exact .inl h2
      · exact .inr ⟨rfl, ih h1 h2⟩
theorem bl_tri : ∀ a b : List UInt8, Op.bytesLess a b = true ∨ a = b ∨ Op.bytesLess b a = true
  | [], [] => .inr (.inl E)
  | [], _ :: _ => .inl (by simp [Op.bytesLess])
  | _ :: _, [] => .inr (.inr (by simp [Op.bytesLess]))
  | x :: a, y :: b => by
    have ih := bl_tri a b
    simp only [Op.bytesLess, Bool.or_eq_true, decide_eq_true_eq, Bool.and_eq_true, beq_iff_eq, List.cons.injEq]
    rcases Nat.lt_trichotomy x.toNat y.toNat with h | h | h
    · exact .inl (.inl (UInt8.lt_iff_toNat_lt.2 h))
    · have := UInt8.toNat_inj.1 h; subst this
      rcases ih with h | h | h
      · exact .inl (.inr ⟨rfl, h⟩)
      · exact .inr (.inl ⟨rfl, h⟩)
      · exact .inr (.inr (.inr ⟨rfl, h⟩))
    · exact .inr (.inr (.inl (UInt8.lt_iff_toNat_lt.2 h)))
theorem ltS_irrefl (a : ByteArray) : ltS a a = false := bl_irrefl _
theorem ltS_trans {a b c : ByteArray} (h1 : ltS a b = true) (h2 : ltS b c = true) : ltS a c = true := bl_trans _ _ _ h1 h2
theorem ltS_tri (a b : ByteArray) : ltS a b = true ∨ a = b ∨ ltS b a = true := by
 rcases bl_tri a.toList b.toList with h | h | h
 ·exact .inl h
 ·exact .inr (.inl (toList_inj.1 h))
 ·exact .inr (.inr h)
theorem cmpS_neg (a b : ByteArray) : cmpS a b < 0 ↔ ltS a b = true := by
 rw [cmpS_eq]; split
 ·simp_all
 ·split <;> simp_all
def RisB (l : List Bd) : Prop := l.Pairwise (fun a b => ltS a.name b.name = true)
def posB (l : List Bd) (s : ByteArray) : Nat := (l.takeWhile (fun b => ltS b.name s)).length
def lookB (l : List Bd) (s : ByteArray) : Option Tm := (l.find? (fun b => decide (b.name = s))).map Bd.t
def hasB (l : List Bd) (s : ByteArray) : Bool := l.any (fun b => decide (b.name = s))
theorem posB_le (l : List Bd) (s : ByteArray) : posB l s ≤ l.length := (List.takeWhile_prefix _).length_le
theorem posB_eq (s : ByteArray) : ∀ (l : List Bd) (k : Nat), k ≤ l.length → (∀ (j : Nat) (b : Bd), j < k → l[j]? = some b → ltS b.name s = true) → (∀ b, l[k]? = some b → ltS b.name s = false) → posB l s = k
  | [], k, h, _, _ => by simp at h; subst h; rfl
  | a :: l, 0, _, _, h2 => by
    have := h2 a (by simp)
    simp [posB, List.takeWhile_cons, this]
  | a :: l, k + 1, h, h1, h2 => by
    have h0 := h1 0 a (by omega) (by simp)
    have ih := posB_eq s l k (by simpa using h) (fun j b hj hs => h1 (j + 1) b (by omega) (by simpa using hs)) (fun b hs => h2 b (by simpa using hs))
    simp only [posB] at ih ⊢
    rw [List.takeWhile_cons, if_pos h0, List.length_cons, ih]
theorem RisB.lt {l : List Bd} (h : RisB l) {i j : Nat} {a b : Bd} (hij : i < j) (ha : l[i]? = some a) (hb : l[j]? = some b) : ltS a.name b.name = true := by
 obtain ⟨h1, rfl⟩ := List.getElem?_eq_some_iff.1 ha
 obtain ⟨h2, rfl⟩ := List.getElem?_eq_some_iff.1 hb
 exact List.pairwise_iff_getElem.1 h i j h1 h2 hij
theorem posB_spec (s : ByteArray) : ∀ (l : List Bd), (∀ (j : Nat) (b : Bd), j < posB l s → l[j]? = some b → ltS b.name s = true) ∧ ∀ b, l[posB l s]? = some b → ltS b.name s = false
  | [] => ⟨fun j b h => by simp [posB] at h, fun b h => by simp at h⟩
  | a :: l => by
    have ih := posB_spec s l
    by_cases h : ltS a.name s = true
    · have e : posB (a :: l) s = posB l s + 1 := by simp [posB, List.takeWhile_cons, h]
      rw [e]
      refine ⟨fun j b hj hb => ?_, fun b hb => ih.2 b (by simpa using hb)⟩
      cases j with
      | zero => simp only [List.getElem?_cons_zero, Option.some.injEq] at hb; subst hb; exact h
      | succ j => exact ih.1 j b (by omega) (by simpa using hb)
    · have e : posB (a :: l) s = 0 := by simp [posB, List.takeWhile_cons, h]
      rw [e]
      refine ⟨fun j b hj => absurd hj (by omega), fun b hb => ?_⟩
      simp only [List.getElem?_cons_zero, Option.some.injEq] at hb; subst hb; simpa using h
theorem hasB_pos {l : List Bd} (h : RisB l) (s : ByteArray) : hasB l s = (match l[posB l s]? with | some b => decide (b.name = s) | none => false) := by
 obtain ⟨hp, hq⟩ := posB_spec s l
 rw [Bool.eq_iff_iff]
 constructor
 ·intro ha
  simp only [hasB, List.any_eq_true, decide_eq_true_eq] at ha
  obtain ⟨b, hb, rfl⟩ := ha
  obtain ⟨j, hj⟩ := List.getElem?_of_mem hb
  have hjl := (List.getElem?_eq_some_iff.1 hj).1
  have e : j = posB l b.name := by
   rcases Nat.lt_trichotomy j (posB l b.name) with h1 | h1 | h1
   ·have := hp j b h1 hj; rw [ltS_irrefl] at this; cases this
   ·exact h1
   ·obtain ⟨x, hx⟩ := qH (l := l) (k := posB l b.name) (by omega)
    have h2 := h.lt h1 hx hj
    rw [hq x hx] at h2; cases h2
  rw [← e, hj]; simp
 ·intro ha
  split at ha
  ·rename_i b hb
   simp only [decide_eq_true_eq] at ha
   simp only [hasB, List.any_eq_true, decide_eq_true_eq]
   exact ⟨b, List.mem_of_getElem? hb, ha⟩
  ·cases ha
def bsI (p : Nat → Bool) (n : Nat) : Nat → Nat × Nat
 | 0 => (0, n)
 | k + 1 => let q := bsI p n k; if p ((q.1 + q.2) / 2) then ((q.1 + q.2) / 2 + 1, q.2) else (q.1, (q.1 + q.2) / 2)
def bdP (l : List Bd) (s : ByteArray) (i : Nat) : Bool := match l[i]? with
 | some b => ltS b.name s
 | none => false
theorem find1_ok (b : Bd) (s : ByteArray) : PF 236 [.agg (lift false (bdD b)), sv s] (iv (cmpS b.name s)) := by
 refine qF Tryz.func236 E Tryz.ntmps236 zL fun c hL hQ hDD => (qd (qb (qy E E zD (qaa 2 E E E) E (zX E (zK (qd ?_)))))); refine qb (zA E (qe E qaG E) (zA E (ql E qaf E E E E E) (zX E (qE (avs := [_, _]) true E E E zD qdX E E (stringsCompare_ok _ _) E E (zX E (zK (qo (zI hL (qh E qi) ?_ ?_))))))))
 ·rfl
 exact ⟨rfl, rfl⟩
theorem half_conv {i j : Nat} (h : i + j ≤ 9223372036854775807) : IntKind.i64.wrap (IntKind.u64.wrap ((i : Int) + (j : Int)) / 2 ^ min (1 : Int).toNat IntKind.u64.bits) = (((i + j) / 2 : Nat) : Int) := by
 have e1 : IntKind.u64.wrap ((i : Int) + (j : Int)) = ((i + j : Nat) : Int) := by
  simp only [IntKind.wrap, IntKind.signed, IntKind.bits]
  show (if (false && _) = true then _ else _) = _
  rw [if_neg (by simp)]
  show ((i : Int) + (j : Int)) % 18446744073709551616 = _
  push_cast
  omega
 rw [e1, show ((2 : Int) ^ min (1 : Int).toNat IntKind.u64.bits) = 2 from rfl]
 rw [wrap_in (by omega)]
 omega
theorem find_bs (l : List Bd) (s : ByteArray) (hr : RisB l) (hl : l.length ≤ 1000000) : AC Tryz.prog 235 [.dat false 5 (bdDs l), sv s, .fn 236 []] [] (fun r O => r = .tup [iv (posB l s), bv (hasB l s)] ∧ O = []) := by
  have hlen := qaR l
  have hmono : ∀ (a b : Nat), a < b → bdP l s b = true → bdP l s a = true := fun a b hab hb => by
    unfold bdP at hb ⊢
    cases hx : l[b]? with
    | none => rw [hx] at hb; cases hb
    | some y =>
      rw [hx] at hb
      obtain ⟨x, hxa⟩ := qH (l := l) (k := a) (by have := (List.getElem?_eq_some_iff.1 hx).1; omega)
      rw [hxa]
      exact ltS_trans (hr.lt hab hxa hx) hb
  refine qF Tryz.func235 E Tryz.ntmps235 zL fun c hL hQ hDD => (qd (qb (zX E (zX E (zK (qd ?_)))))); refine qb (zX E (zA E (qu E qO E) ?_))
  refine zX E (zK (qd (qb (zX E (zX E (zX E ?_)))))); refine zK (qd (qv ?_))
  refine q6 (l.length) (fun k => (bsI (bdP l s) l.length k).1 ≤ (bsI (bdP l s) l.length k).2 ∧ (bsI (bdP l s) l.length k).2 ≤ l.length ∧ (bsI (bdP l s) l.length k).2 - (bsI (bdP l s) l.length k).1 + k ≤ l.length ∧ (∀ j, j < (bsI (bdP l s) l.length k).1 → bdP l s j = true) ∧ (∀ j, (bsI (bdP l s) l.length k).2 ≤ j → bdP l s j = false)) (fun k => ⟨[(0, .dat false 5 (bdDs l)), (1, sv s), (2, .fn 236 []), (8, iv (bdDs l).length), (9, iv ((bsI (bdP l s) l.length k).1 : Int)), (10, iv ((bsI (bdP l s) l.length k).2 : Int))], []⟩) (⟨by simp [bsI], by simp [bsI], by simp [bsI], fun j hj => absurd hj (by simp [bsI]), fun j hj => by simp only [bsI] at hj; simp [bdP, List.getElem?_eq_none hj]⟩) ?_ (fun k hk hp => ?_)
  · exact qB (zC E (zC E (zC E (zC E (SubT.cons (qan E (by rfl)) (SubT.cons (qan E (by simp [bsI, qaR])) SubT.nil)))))) SubO.nil rfl rfl (noL' (noL hL) _)
  obtain ⟨hp1, hp2, hp3, hp4, hp5⟩ := hp
  generalize hI : (bsI (bdP l s) l.length k).1 = I at *
  generalize hJ : (bsI (bdP l s) l.length k).2 = J at *
  refine qd (qd (qb (zX E (zX E (zA E (qj E E E E) (zK ?_)))))); refine qq E (fun c0 => ?_) (fun c0 => ?_)
  · try simp only[↓cqA,cqB]at c0
    obtain ⟨u, hu⟩ := qH (l := l) (k := (I + J) / 2) (by omega)
    refine qr (qa (qv (qd (qb (zX E (zX E (zA E (qJ E E E (by omega)) ?_))))))); refine zA E (stp_conv E us_int ul_uint E) (zA E (stp_shr E E E zD) (zA E (stp_conv E us_uint ul_int E) (zX E (zK (qd (qb ?_))))))
    rw [half_conv (by omega)]
    refine zX E (zX E (zX E (zA E (qp E qO E E (by omega) (qbe hu)) (zA E (qC E qaT E E) (zX E (qE (avs := [_, _]) true E E E zD en_bind_find_1 E E (find1_ok u s) E E (zA E (qj E E E E) (zK (qq E (fun c1 => ?_) (fun c1 => ?_))))))))))
    · try simp only[↓cqA,cqB]at c1
      have hpm1 : bdP l s ((I + J) / 2) = true := by simp only [bdP, hu]; exact (cmpS_neg _ _).1 c1
      have hs1 : bsI (bdP l s) l.length (k + 1) = ((I + J) / 2 + 1, J) := by simp only [bsI, hI, hJ, hpm1, if_true]
      refine qb (zX E (zA E (qJ E E E (by omega)) (zX E (qc (qP (qa ?_)))))); refine ⟨?_, ?_, ?_⟩
      · omega
      · have hs : bsI (bdP l s) l.length (k + 1) = if bdP l s ((I + J) / 2) then ((I + J) / 2 + 1, J) else (I, (I + J) / 2) := by simp only [bsI, hI, hJ]
        have hpm : bdP l s ((I + J) / 2) = ltS u.name s := by simp [bdP, hu]
        rw [hs, hpm]
        by_cases hc : ltS u.name s = true
        · rw [if_pos hc]
          refine ⟨by simp only; omega, by simp only; omega, by simp only; omega, fun j hj => ?_, fun j hj => hp5 j hj⟩
          rcases Nat.lt_or_ge j ((I + J) / 2) with h1 | h1
          · exact hmono j _ h1 (hpm.trans hc)
          · rw [show j = (I + J) / 2 by simp only at hj; omega, hpm]; exact hc
        · rw [if_neg hc]
          refine ⟨by simp only; omega, by simp only; omega, by simp only; omega, hp4, fun j hj => ?_⟩
          cases h1 : bdP l s j with
          | false => rfl
          | true =>
            exfalso
            rcases Nat.eq_or_lt_of_le hj with h2 | h2
            · simp only at h2; rw [← h2, hpm] at h1; exact hc h1
            · have := hmono _ j h2 h1
              rw [hpm] at this; exact hc this
      exact qB (zC E (zC E (zC E (zC E (SubT.cons (qan E (by simp [hs1])) (SubT.cons (qan rfl (by simp [hs1])) SubT.nil)))))) SubO.nil rfl rfl (noL' (noL hL) _)
    try simp only[↓cqA,cqB]at c1
    have hpm1 : bdP l s ((I + J) / 2) = false := by
      simp only [bdP, hu]
      cases h : ltS u.name s with
      | false => rfl
      | true => have := (cmpS_neg _ _).2 h; omega
    have hs1 : bsI (bdP l s) l.length (k + 1) = (I, (I + J) / 2) := by simp only [bsI, hI, hJ, hpm1]; rfl
    refine qb (zX E (zX E (qc (qP (qa ?_))))); refine ⟨?_, ?_, ?_⟩
    · omega
    · have hs : bsI (bdP l s) l.length (k + 1) = if bdP l s ((I + J) / 2) then ((I + J) / 2 + 1, J) else (I, (I + J) / 2) := by simp only [bsI, hI, hJ]
      have hpm : bdP l s ((I + J) / 2) = ltS u.name s := by simp [bdP, hu]
      rw [hs, hpm]
      by_cases hc : ltS u.name s = true
      · rw [if_pos hc]
        refine ⟨by simp only; omega, by simp only; omega, by simp only; omega, fun j hj => ?_, fun j hj => hp5 j hj⟩
        rcases Nat.lt_or_ge j ((I + J) / 2) with h1 | h1
        · exact hmono j _ h1 (hpm.trans hc)
        · rw [show j = (I + J) / 2 by simp only at hj; omega, hpm]; exact hc
      · rw [if_neg hc]
        refine ⟨by simp only; omega, by simp only; omega, by simp only; omega, hp4, fun j hj => ?_⟩
        cases h1 : bdP l s j with
        | false => rfl
        | true =>
          exfalso
          rcases Nat.eq_or_lt_of_le hj with h2 | h2
          · simp only at h2; rw [← h2, hpm] at h1; exact hc h1
          · have := hmono _ j h2 h1
            rw [hpm] at this; exact hc this
    exact qB (zC E (zC E (zC E (zC E (SubT.cons (qan E (by simp [hs1])) (SubT.cons (qan rfl (by simp [hs1])) SubT.nil)))))) SubO.nil rfl rfl (noL' (noL hL) _)
  try simp only[↓cqA,cqB]at c0
  refine qQ (qn (qn (qX ?_))); refine qa (qd (qb (zX E (zX E (zX E (zA E (qj E E E E) (zX E ?_))))))); refine qt 39 E (fun g39 => ?_) (fun g39 => ?_)
  · try simp only[↓cqA,cqB]at g39
    obtain ⟨v, hv⟩ := qH (l := l) (k := I) (by omega)
    refine zZ E (qk (.inl E) E) (zZ E (qk (.inl E) E) (zZ E (qk (.inl E) E) (zZ E (qp E qO E E (by omega) (qbe hv)) (zZ E (qC E qaT E E) ?_))))
    refine zZ E (qk (.inl E) E) (zZ E (qY (avs := [_, _]) true E en_bind_find_1 E E (find1_ok v s) (fun _ => rfl) E) (zZ E (qj E E E E) (zA E (qg E E E) (zX E (zX E (zK ?_)))))); refine qo (zI hL (qh E (qh E qi)) ?_ ?_)
    · rfl
    refine ⟨?_, rfl⟩
    have hIJ : I = J := by omega
    have e1 : posB l s = I := posB_eq s l I (by omega) (fun j b hj hb => by have := hp4 j hj; simpa [bdP, hb] using this) (fun b hb => by have := hp5 I (by omega); simpa [bdP, hb] using this)
    have e2 := hasB_pos hr s
    rw [e1] at e2 ⊢
    rw [e2]
    try rw [hv]
    try rw [List.getElem?_eq_none (by omega)]
    first | rfl | (simp only [Value.bool.injEq, resV]; congr; rw [Bool.eq_iff_iff]; simp [cmpS_zero])
  try simp only[↓cqA,cqB]at g39
  refine zY E (zY E (zY E (zY E (zY E (zY E (zY E (zY E (zA E (qg E E E) (zX E (zX E (zK (qo (zI hL (qh E (qh E qi)) ?_ ?_)))))))))))))
  · rfl
  refine ⟨?_, rfl⟩
  have hIJ : I = J := by omega
  have e1 : posB l s = I := posB_eq s l I (by omega) (fun j b hj hb => by have := hp4 j hj; simpa [bdP, hb] using this) (fun b hb => by have := hp5 I (by omega); simpa [bdP, hb] using this)
  have e2 := hasB_pos hr s
  rw [e1] at e2 ⊢
  rw [e2]
  try rw [hv]
  try rw [List.getElem?_eq_none (by omega)]
  first | rfl | (simp only [Value.bool.injEq, resV]; congr; rw [Bool.eq_iff_iff]; simp [cmpS_zero])
theorem splice_end {α : Type} (l m : List α) {r : List α} (h : m.length ≤ r.length) : qaz (l ++ r) l.length m = l ++ m ++ r.drop m.length := by
 simp only [qaz]
 rw [List.take_append_of_le_length (Nat.le_refl _), List.take_length, List.drop_append, List.drop_eq_nil_of_le (by omega), List.nil_append]
 congr 2; omega
def zeroTm : Tm := ⟨0, ⟨#[]⟩, 0, []⟩
def lookT (l : List Bd) (s : ByteArray) : Tm := (lookB l s).getD zeroTm
theorem zero_le (f : Bool) : Le (.agg [iv 0, sv ⟨#[]⟩, iv 0, .imm (.slice none 0 0)]) (.agg (lift f (tmD zeroTm))) := .agg (.cons .refl (.cons .refl (.cons .refl (.cons .nil .nil))))
theorem find_ok (l : List Bd) (s : ByteArray) (hr : RisB l) (hl : l.length ≤ 1000000) : PF 174 [.dat false 5 (bdDs l), sv s] (.tup [iv (posB l s), bv (hasB l s)]) := by
 refine qF Tryz.func174 E Tryz.ntmps174 zL fun c hL hQ hDD => (qd (qb (zX E (zX E (zK (qd ?_)))))); refine qb (zX E (zX E (qE (avs := [_, _, _]) false E E E zD qce E E (find_bs l s hr hl) E E (zA E (qay E E E) (zA E (qay E E E) (zX E (zX E (zK (qo (zI hL (qh E (qh E qi)) ?_ ?_))))))))))
 ·rfl
 exact ⟨rfl, rfl⟩
theorem lookB_has (l : List Bd) (s : ByteArray) (hr : RisB l) : hasB l s = (lookB l s).isSome ∧ (hasB l s = true → ∃ b, l[posB l s]? = some b ∧ b.name = s ∧ lookB l s = some b.t) := by
  have key : ∀ l : List Bd, hasB l s = (lookB l s).isSome := fun l => by
    induction l with
    | nil => rfl
    | cons a l ih =>
      by_cases h : a.name = s
      · simp [hasB, lookB, List.find?_cons, h]
      · simp only [hasB, lookB, List.any_cons, List.find?_cons, h, decide_false, Bool.false_or]
        exact ih
  refine ⟨key l, fun h => ?_⟩
  have h2 := hasB_pos hr s
  rw [h] at h2
  cases hb : l[posB l s]? with
  | none => rw [hb] at h2; cases h2
  | some b =>
    rw [hb] at h2
    have hn : b.name = s := of_decide_eq_true h2.symm
    refine ⟨b, rfl, hn, ?_⟩
    have huniq : ∀ x ∈ l, x.name = s → x = b := fun x hx hxs => by
      obtain ⟨j, hj⟩ := List.getElem?_of_mem hx
      rcases Nat.lt_trichotomy j (posB l s) with h1 | h1 | h1
      · have := hr.lt h1 hj hb; rw [hxs, hn, ltS_irrefl] at this; cases this
      · rw [h1, hb] at hj; cases hj; rfl
      · have := hr.lt h1 hb hj; rw [hxs, hn, ltS_irrefl] at this; cases this
    cases hf : l.find? (fun b => decide (b.name = s)) with
    | none =>
      have := List.find?_eq_none.1 hf b (List.mem_of_getElem? hb)
      simp [hn] at this
    | some x =>
      have h3 := List.find?_some hf
      have h4 := List.mem_of_find?_eq_some hf
      simp only [decide_eq_true_eq] at h3
      rw [huniq x h4 h3] at hf
      simp [lookB, hf]
theorem lookB_none {l : List Bd} {s : ByteArray} (hr : RisB l) (h : hasB l s = false) : lookB l s = none := by
 have h2 := (lookB_has l s hr).1
 rw [h] at h2
 cases h3 : lookB l s with
 | none => rfl
 | some t => rw [h3] at h2; cases h2
theorem Look_raw (l : List Bd) (s : ByteArray) (hr : RisB l) (hl : l.length ≤ 1000000) : AC Tryz.prog 189 [.dat false 5 (bdDs l), sv s] [] (fun r O => (hasB l s = true ∧ r = .tup [tmA false (lookT l s), bv true] ∨ hasB l s = false ∧ r = .tup [.agg [iv 0, sv ⟨#[]⟩, iv 0, .imm (.slice none 0 0)], bv false]) ∧ O = []) := by
 have hlen := qaR l
 have hpl := posB_le l s
 refine qF Tryz.func189 E Tryz.ntmps189 zL fun c hL hQ hDD => (qd (qb (qy E E zD (qaD 4 E qaw E) E (zX E (zK (qd ?_)))))); refine qb (zX E (zX E (qE (avs := [_, _]) false E E E zD en_bind_find E E (find_ok l s hr hl) E E (zX E (zA E (qay E E E) ?_)))))
 refine zA E (qay E E E) (zX E (zX E (zK (qd (qd (qb ?_)))))); refine zX E (zA E (qal E E) (zK (qq E (fun c0 => ?_) (fun c0 => ?_))))
 ·try simp only[↓cqA,cqB]at c0
  refine qd (qb (zA E (qa1 E qaw E qdI E E) (qae E E E qw E E E E E E E E E (zX E (zK (qo ?_)))))); refine qm (zI hL (qbb qw E E E (qh E qi)) ?_ ?_)
  ·rfl
  exact ⟨.inr ⟨c0, rfl⟩, rfl⟩
 try simp only[↓cqA,cqB]at c0
 obtain ⟨b, hb, hn, hlk⟩ := (lookB_has l s hr).2 c0
 have hlt := (List.getElem?_eq_some_iff.1 hb).1
 refine qr (qa (qd (qb (zX E (zX E (zA E (qp E qO E E (by omega) (qbe hb)) (zA E (qA E qaZ E) ?_))))))); refine zA E (qC E qw E E) (qae E E E qw E E E E E E E E E (zX E (zK (qo (zI hL (qbb qw E E E (qh E qi)) ?_ ?_)))))
 ·rfl
 refine ⟨.inl ⟨c0, ?_⟩, rfl⟩
 rw [lookT, hlk]; rfl
theorem Look_ok (l : List Bd) (s : ByteArray) (hr : RisB l) (hl : l.length ≤ 1000000) : PF 189 [.dat false 5 (bdDs l), sv s] (.tup [tmA false (lookT l s), bv (hasB l s)]) :=
 AC_leP (Look_raw l s hr hl) (fun r O' h => by
  obtain ⟨h | h, rfl⟩ := h
  ·obtain ⟨h1, rfl⟩ := h; exact ⟨_, .refl, by rw [h1], rfl⟩
  ·obtain ⟨h1, rfl⟩ := h
   refine ⟨_, .tup (.cons (zero_le false) (.cons .refl .nil)), ?_, rfl⟩
   rw [h1, lookT, lookB_none hr h1]; rfl)
structure BOk (l : List Bd) : Prop where
 ris : RisB l
 len : l.length ≤ 1000
 el : ∀ b ∈ l, b.wf ∧ mayT b.t = true
def gB (l : List Bd) (s : ByteArray) : Tm := (lookB l s).getD ⟨1, s, 0, []⟩
theorem lookB_mem {l : List Bd} {s : ByteArray} {t : Tm} (h : lookB l s = some t) : ∃ b ∈ l, b.name = s ∧ b.t = t := by
 simp only [lookB, Option.map_eq_some_iff] at h
 obtain ⟨b, h1, h2⟩ := h
 have h3 := List.find?_some h1
 simp only [decide_eq_true_eq] at h3
 exact ⟨b, List.mem_of_find?_eq_some h1, h3, h2⟩
theorem BOk.look {l : List Bd} (h : BOk l) {s : ByteArray} {t : Tm} (ht : lookB l s = some t) : t.wf ∧ mayT t = true := by
 obtain ⟨b, h1, _, rfl⟩ := lookB_mem ht
 exact ⟨(h.el b h1).1.2, (h.el b h1).2⟩
theorem Put1_ok (l : List Bd) (hl : BOk l) (s : ByteArray) : AC Tryz.prog 188 [sv s, .ptr 99 0] [(99, .box [.dat false 5 (bdDs l)])] (fun r O => r = .agg (lift true (tmD (gB l s))) ∧ O = [(99, .box [.dat false 5 (bdDs l)])]) := by
 have hln := hl.len
 have hls := (lookB_has l s hl.ris).1
 refine AC_leP (Post := fun r O => (r = .agg (lift true (tmD (gB l s))) ∨ hasB l s = false ∧ r = .agg [iv 1, sv s, iv 0, .imm (.slice none 0 0)]) ∧ O = [(99, .box [.dat false 5 (bdDs l)])]) ?_ (fun r O' h => by
  obtain ⟨rfl | ⟨h1, rfl⟩, rfl⟩ := h
  ·exact ⟨_, .refl, rfl, rfl⟩
  ·refine ⟨.agg (lift true (tmD ⟨1, s, 0, []⟩)), .agg (.cons .refl (.cons .refl (.cons .refl (.cons .nil .nil)))), ?_, rfl⟩
   rw [gB, lookB_none hl.ris h1]; rfl)
 refine qF Tryz.func188 E Tryz.ntmps188 zL fun c hL hQ hDD => (qd (qb (qy E E zD (qaD 3 E qaw E) E (zK (qd (qd ?_)))))); refine qb (zA E (ql E qap E E E E E) (zX E (qE (avs := [_, _]) false E E E zD en_bind_Look E E (Look_ok l s hl.ris (by omega)) E E (zX E (zA E (qay E E E) (zA E (qay E E E) ?_))))))
 refine qy E E zD (qaD 4 E qaw E) E (qae E E E qw E E E E E E E E E (zX E (zK (qd (qb (zX E ?_)))))); refine zK (qq E (fun c0 => ?_) (fun c0 => ?_))
 ·try simp only[↓cqA,cqB]at c0
  obtain ⟨t, ht⟩ : ∃ t, lookB l s = some t := by
   cases h : lookB l s with
   | none => rw [h, c0] at hls; cases hls
   | some t => exact ⟨t, rfl⟩
  obtain ⟨hw, hm⟩ := hl.look ht
  have hlt : lookT l s = t := by rw [lookT, ht]; rfl
  rw [hlt]
  have key := Own_ok 5 t (mayT_dle hm).1 hw
  rw [own_may 5 t 24 hm] at key
  refine qd (qb (zA E (qK E qw E E E E) (qE (avs := [_]) true E E E zD en_term_Own E E (key) E E (qae E E E qw E E E E E E E E E (zK (qo ?_)))))); refine qm ?_
  change retQ _ _ _ _ _ _ _
  refine retO (O' := [(99, _)]) (.inl E) (qbb qw E E E qi) (SubO.cons E SubO.nil) ?_ ?_ (LO hL E) ?_
  ·rfl
  ·rfl
  refine ⟨.inl ?_, rfl⟩
  rw [gB, ht]; rfl
 try simp only[↓cqA,cqB]at c0
 refine qr (qa (qd (qb (zX E (zA E (qa1 E qaw E qdI E E) (qae E E E qw E E E E E E E E E (qc ?_))))))); refine qa (qo ?_)
 change retQ _ _ _ _ _ _ _
 refine retO (O' := [(99, _)]) (.inl E) (qbb qw E E E qi) (SubO.cons E SubO.nil) ?_ ?_ (LO hL E) ?_
 ·rfl
 ·rfl
 exact ⟨.inr ⟨c0, rfl⟩, rfl⟩
abbrev bdA (l : List Bd) : AV := .dat false 5 (bdDs l)
theorem TurnedP_ok (l : List Bd) (hl : BOk l) : ∀ (d : Nat) (t : Tm), dle d t → t.wf → AC Tryz.prog 187 [tmA false t, .fn 188 [.ptr 99 0]] [(99, .box [bdA l])] (fun r O => r = .agg (lift true (tmD (turnT (gB l) d t))) ∧ O = [(99, .box [bdA l])])
  | 0, t, h, _ => h.elim
  | d + 1, t, h, ht => by
    have hlen := qaJ t.args
    have hal := ht.2.2.2.1
    refine qF Tryz.func187 E Tryz.ntmps187 zL fun c hL hQ hDD => (qd (qb (qy E E zD (qaa 2 E E E) E (qy E E zD (qaD 4 E qaw E) E (zK (qd ?_)))))); refine qd (qb (zA E (qe E qar E) (zA E (ql E qU E E E E E) (zA E (qj E E E E) (zK (qq E (fun c0 => ?_) (fun c0 => ?_)))))))
    · try simp only[↓cqA,cqB]at c0
      refine qd ?_; refine qb ?_; refine zX E ?_; refine zA E (qe E qav E) ?_; refine zA E (ql E qaf E E E E E) ?_; refine qaj (avs := [_]) false E E E zD en_bind_Put_1 E E (Put1_ok l hl t.name) E (qbX (.cons E trivial E .nil)) (by rintro r O' ⟨rfl, rfl⟩ l' hl'; exact .inl ((qdr (by rfl) l').trans hl')) (by rintro h; cases h) ?_
      rintro r O' ⟨rfl, rfl⟩
      refine qae E E E qw E E E E E E E E E (zK (qo (qm ?_)))
      change retQ _ _ _ _ _ _ _
      refine retO (O' := [(99, _)]) (.inl E) (qbb qw E E E qi) (SubO.cons E SubO.nil) ?_ ?_ (LO hL E) ?_
      · rfl
      · rfl
      exact ⟨by rw [turnT, if_pos c0]; rfl, rfl⟩
    try simp only[↓cqA,cqB]at c0
    refine qr (qa (qd (qb (zX E (zK (qd ?_)))))); refine qd (qb (zA E (qe E q8 E) (zA E (ql E q7 E E E E E) (zA E (qu E qI E) (zX E (zK (qv (q6 (t.args.length) (fun k => k ≤ t.args.length) (fun k => ⟨[(1, .fn 188 [.ptr 99 0]), (2, .ptr 2 0), (4, .ptr 4 0), (5, .row 5), (16, .dat false 4 (tmDs t.args)), (17, iv (tmDs t.args).length), (18, iv (k : Int))], [(99, .box [bdA l]), (2, .box (lift false (tmD t))), (4, .box ([Value.int .i64 0, Value.string ⟨#[]⟩, Value.int .i64 0, Value.slice none 0 0].map .imm)), (5, .rowd 34 4 true (tmDsL ((t.args.take k).map (turnT (gB l) d))))]⟩) (by omega) ?_ (fun k hk hp => ?_)))))))))
    · exact Sub.trans (qaU (t := 5) (l := 5) 34 4 true E E) (qB (zC E (zC E (zC E (zC E (zC E (zC E (zC E SubT.nil))))))) (SubO.cons (qR E (by rfl)) (SubO.cons (qR E (by rfl)) (SubO.cons (qR E (by rfl)) (SubO.cons (qR E (by rfl)) SubO.nil)))) E E (oneL hL E))
    have hl2 : (tmDsL ((t.args.take k).map (turnT (gB l) d))).length ≤ t.args.length := by simp [tmDsL]; omega
    refine qd (qb (zA E (qj E E E E) (zK (qd (qq E (fun c1 => ?_) (fun c1 => ?_))))))
    · try simp only[↓cqA,cqB]at c1
      obtain ⟨u, hu⟩ := qH (l := t.args) (k := k) (by omega)
      have hum := List.mem_of_getElem? hu
      refine qr (qa (qd (qv (qd (qb (zA E (qp E qI E E (by omega) (qbv hu)) (zA E (qC E qw E E) (qy E E zD (qaD 7 E qaw E) E (qae E E E qw E E E E E E E E E (zK (qb (zX E (zA E (qK E qw E E E E) ?_)))))))))))))
      refine zX E ?_; refine qaj (avs := [_, _]) false E E E zD en_term_Turned E E (TurnedP_ok l hl d u (h u hum) (Tm.wfs_mem ht.2.2.2.2 hum)) E (qbX (.cons E trivial E .nil)) (by rintro r O' ⟨rfl, rfl⟩ l' hl'; exact .inl ((qdr (by rfl) l').trans hl')) (by rintro h; cases h) ?_
      rintro r O' ⟨rfl, rfl⟩
      refine qy E E zD (qam 26 E qI qaw E E zD zD zD E E E) E (qc1 E E zD (qa5 27 ta_S_api_Term E E E E E E E E (oneL' hL E) (by omega) E) E ?_)
      refine zX E (qc (qP (qa (qb (zA E (qJ E E E (by omega)) (zX E (qc ?_))))))); refine qa ?_; refine ⟨?_, ?_, ?_⟩
      · omega
      · omega
      exact Sub.trans (qaC 27 5 (oneL' hL E) (oneL' hL E)) (qB (zC E (zC E (zC E (zC E (zC E (zC E (zC E SubT.nil))))))) (SubO.cons (qR E (by rfl)) (SubO.cons (qR E (by rfl)) (SubO.cons (qR E (by rfl)) (SubO.cons (qR E (by rw [qac hu, List.map_append, tmDsL, tmDsL, List.map_append]; rfl)) SubO.nil)))) E E (oneL hL E))
    try simp only[↓cqA,cqB]at c1
    refine qQ (qn (qn (qX ?_))); refine qa (qd (qb (zX E (zA E (qe E q8 E) (qae E E E q7 E E E E E E E E E (zK ?_)))))); refine qd (qd3 (qa4 (l := 5) E zD (oneL' hL E) E E) (qb (zA E (qK E qw E E E E) (qae E E E qw E E E E E E E E E (zK (qo ?_))))))
    change retQ _ _ _ _ _ _ _
    refine retO (O' := [(99, _)]) (.inl E) (qbb qw E E E qi) (SubO.cons E SubO.nil) ?_ ?_ (LO hL E) ?_
    · rfl
    · rfl
    exact ⟨by rw [turnT, if_neg c0, List.take_of_length_le (by omega)]; simp only [tmD, qdh]; rfl, rfl⟩
def putT (l : List Bd) (t : Tm) : Tm := turnT (gB l) 5 t
theorem Put_ok (l : List Bd) (hl : BOk l) (t : Tm) (hd : dle 5 t) (ht : t.wf) : PF 120 [bdA l, tmA false t] (.agg (lift true (tmD (putT l t)))) := by
 have key := AC_rnE 99 2 (TurnedP_ok l hl 5 t hd ht)
 refine qF Tryz.func120 E Tryz.ntmps120 zL fun c hL hQ hDD => (qd (qb (qy E E zD (qaa 2 E E E) E (qy E E zD (qaa 3 E E E) E (qy E E zD (qaD 4 E qaw E) E (zK ?_)))))); refine qd (qb (zA E (qK E qw E E E E) ?_))
 refine zA E (qdL (vs := [_]) E E) ?_; refine qaj (avs := [_, _]) false E E E zD en_term_Turned E E (key) E (qbX (.cons E trivial E .nil)) (by rintro r O' ⟨rfl, rfl⟩ l' hl'; exact .inl ((qdr (by rfl) l').trans hl')) (by rintro h; cases h) ?_
 rintro r O' ⟨rfl, rfl⟩
 refine qae E E E qw E E E E E E E E E (zK (qo (zI hL (qbb qw E E E qi) ?_ ?_)))
 ·rfl
 exact ⟨by rfl, rfl⟩
theorem turnT_wf (g : ByteArray → Tm) (hg : ∀ s, s.size ≤ 140737488351232 → (g s).wf) : ∀ (d : Nat) (t : Tm), t.wf → (turnT g d t).wf
  | 0, t, h => h
  | d + 1, t, h => by
    simp only [turnT]
    split
    · exact hg _ h.2.1
    · refine ⟨h.1, h.2.1, h.2.2.1, by simpa using h.2.2.2.1, ?_⟩
      have key : ∀ ts : List Tm, Tm.wfs ts → Tm.wfs (ts.map (turnT g d)) := fun ts => by
        induction ts with
        | nil => intro _; trivial
        | cons a ts ih =>
          intro h
          simp only [Tm.wfs, List.map_cons] at h ⊢
          exact ⟨(Tm.wf0_iff _).2 (turnT_wf g hg d a ((Tm.wf0_iff _).1 h.1)), ih h.2⟩
      exact key _ h.2.2.2.2
theorem varTm_wf {s : ByteArray} (h : s.size ≤ 140737488351232) : (Tm.mk 1 s 0 []).wf := ⟨⟨by simp, by simp⟩, h, ⟨by simp, by simp⟩, Nat.zero_le _, trivial⟩
theorem gB_wf {l : List Bd} (hl : BOk l) (s : ByteArray) (h : s.size ≤ 140737488351232) : (gB l s).wf := by
 unfold gB
 cases hh : lookB l s with
 | none => exact varTm_wf h
 | some t => exact (hl.look hh).1
theorem putT_wf {l : List Bd} (hl : BOk l) {t : Tm} (ht : t.wf) : (putT l t).wf := turnT_wf _ (gB_wf hl) _ _ ht
theorem zeroTm_wf : zeroTm.wf := ⟨⟨by simp [zeroTm], by simp [zeroTm]⟩, by simp [zeroTm]; exact Nat.zero_le _, ⟨by simp [zeroTm], by simp [zeroTm]⟩, Nat.zero_le _, trivial⟩
def intoT (l : List Bd) (t : Tm) : Tm := if mayT (putT l t) = true then putT l t else zeroTm
def intoE (l : List Bd) (t : Tm) : Int := if mayT (putT l t) = true then 0 else 2
theorem into_may {l : List Bd} {t : Tm} (h : intoE l t = 0) : mayT (putT l t) = true ∧ intoT l t = putT l t := by
 unfold intoE at h
 split at h
 ·rename_i hm; exact ⟨hm, by rw [intoT, if_pos hm]⟩
 ·cases h
theorem tmDs_snoc (l : List Tm) (t : Tm) : tmDs (l ++ [t]) = tmDs l ++ [tmD t] := by rw [qdh, qdh, List.map_append]; rfl
theorem terms_ok (l : List Bd) (hl : l.length ≤ 1000) : AC Tryz.prog 177 [bdA l] [] (fun r O => r = .row 2 ∧ O = [(2, .rowd 34 4 false (tmDs (l.map Bd.t)))]) := by
 have hlen := qaR l
 refine qF Tryz.func177 E Tryz.ntmps177 zL fun c hL hQ hDD => (qd (qb (zX E (zK (qd (qd ?_)))))); refine qb (zX E (zA E (qu E qO E) (zX E (zK (qv (q6 (l.length) (fun k => k ≤ l.length) (fun k => ⟨[(2, .row 2), (5, bdA l), (6, iv (bdDs l).length), (7, iv (k : Int))], [(2, .rowd 34 4 false (tmDs ((l.take k).map Bd.t)))]⟩) (by omega) ?_ (fun k hk hp => ?_)))))))
 ·exact Sub.trans (qaU (t := 2) (l := 2) 34 4 false E E) (qB (zC E (zC E (zC E (zC E SubT.nil)))) (SubO.cons (qR E (by rfl)) SubO.nil) E E (noL' (noL hL) _))
 have hl2 : (tmDs ((l.take k).map Bd.t)).length ≤ l.length := by rw [qaJ, List.length_map, List.length_take]; omega
 refine qd (qb (zA E (qj E E E E) (zK (qd (qq E (fun c0 => ?_) (fun c0 => ?_))))))
 ·try simp only[↓cqA,cqB]at c0
  obtain ⟨u, hu⟩ := qH (l := l) (k := k) (by omega)
  refine qr (qa (qd (qv (qd (qb (zA E (qp E qO E E (by omega) (qbe hu)) (zA E (qC E qaT E E) (qy E E zD (qaD 4 E qby E) E (qae E E E qaT E E E E E E E E E (zK (qb (zX E (zA E (qe E qaZ E) (zA E (ql E qw E E E E E) (qy E E zD (qam 14 E qI qaw E E zD zD zD E E E) E (qc1 E E zD (qa5 15 ta_S_api_Term E E E E E E E E (noL hL _) (by omega) E) E ?_))))))))))))))))
  refine zX E (qc (qP (qa (qb (zA E (qJ E E E (by omega)) (zX E (qc ?_))))))); refine qa ?_; refine ⟨?_, ?_, ?_⟩
  ·omega
  ·omega
  exact Sub.trans (qaC 15 2 (noL hL _) (noL hL _)) (qB (zC E (zC E (zC E (zC E SubT.nil)))) (SubO.cons (qR E (by rw [qac hu, List.map_append, List.map_cons, List.map_nil, tmDs_snoc]; rfl)) SubO.nil) E E (noL' (noL hL) _))
 try simp only[↓cqA,cqB]at c0
 refine qQ (qn (qn (qX ?_))); refine qa (qd (qb (zX E (zX E (zK (qo ?_))))))
 change retQ _ _ _ _ _ _ _
 refine retO (O' := [(2, _)]) (.inl E) (qh E qi) (SubO.cons E SubO.nil) ?_ ?_ (noL' (noL hL) _) ?_
 ·rfl
 ·rfl
 exact ⟨rfl, by rw [List.take_of_length_le (by omega)]⟩
end Go.Proofs.YtpgceiijoedppaaGreat
